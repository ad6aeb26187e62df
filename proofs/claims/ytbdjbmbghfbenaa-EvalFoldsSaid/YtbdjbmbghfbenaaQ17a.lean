/-
  Chapter 17: walks: valid expressions, by both texts.
-/
import Derived.Test.YtbdjbmbghfbenaaQ16a
import Derived.Test.YtbdjbmbghfbenaaQ14v

namespace Go.Proofs.Ytbdjbmbghfbenaa
open Go Go.Tp
set_option linter.unusedVariables false
set_option linter.unusedSimpArgs false
set_option maxRecDepth 100000
set_option maxHeartbeats 4000000

theorem encKl_len (l : List KE) : (encKl l).length = l.length := by rw [encKl_map, List.length_map]
theorem plain_p (e : KE) (hw : wfK e) : Pure Try.prog gs0 53 [encK e] (AB (shapeB e)) := by
  obtain ⟨k, o, t, n, v, l⟩ := e
  simp only [wfK, u8, i32, i64] at hw
  obtain ⟨hw, _⟩ := hw
  rw [encK]
  by_cases h1 : k = 1
  · subst h1; refine Pure.of (S := tt) (fn := Try.f53) (n := 86) tt_ok Try.func53 rfl rfl rfl rfl fun w0 h0 F hgs => ?_
    (repeat first|refine A.s rfl ?_|refine A.r rfl rfl ?_|refine A.w rfl rfl ?_|refine A.p rfl ?_|refine A.b rfl fun bx=>?_|refine A.t rfl fun bl=>?_|refine A.step rfl ?_|refine A.v rfl rfl ?_); refine A.ret1 (Λ' := []) rfl rfl rfl (List.nil_sublist _) ⟨?_, rfl⟩; (refine Sb.eq (ab_iff ?_); simp only [shapeB, KE.kind, KE.oper, KE.to, KE.n, KE.v, KE.l, encKl_len]; generalize l.length = len at *; (try simp at hc); (try simp at hd); simp; omega)
  by_cases h2 : k = 2
  · subst h2; refine Pure.of (S := tt) (fn := Try.f53) (n := 86) tt_ok Try.func53 rfl rfl rfl rfl fun w0 h0 F hgs => ?_
    (repeat first|refine A.s rfl ?_|refine A.r rfl rfl ?_|refine A.w rfl rfl ?_|refine A.p rfl ?_|refine A.b rfl fun bx=>?_|refine A.t rfl fun bl=>?_|refine A.step rfl ?_|refine A.v rfl rfl ?_)
    refine A.cond rfl (fun hc => ?_) (fun hc => ?_)
    · (repeat first|refine A.s rfl ?_|refine A.r rfl rfl ?_|refine A.w rfl rfl ?_|refine A.p rfl ?_|refine A.b rfl fun bx=>?_|refine A.t rfl fun bl=>?_|refine A.step rfl ?_|refine A.v rfl rfl ?_); refine A.ret1 (Λ' := []) rfl rfl rfl (List.nil_sublist _) ⟨?_, rfl⟩; (refine Sb.eq (ab_iff ?_); simp only [shapeB, KE.kind, KE.oper, KE.to, KE.n, KE.v, KE.l, encKl_len]; generalize l.length = len at *; (try simp at hc); (try simp at hd); simp; omega)
    · (repeat first|refine A.s rfl ?_|refine A.r rfl rfl ?_|refine A.w rfl rfl ?_|refine A.p rfl ?_|refine A.b rfl fun bx=>?_|refine A.t rfl fun bl=>?_|refine A.step rfl ?_|refine A.v rfl rfl ?_); refine A.ret1 (Λ' := []) rfl rfl rfl (List.nil_sublist _) ⟨?_, rfl⟩; (refine Sb.eq (ab_iff ?_); simp only [shapeB, KE.kind, KE.oper, KE.to, KE.n, KE.v, KE.l, encKl_len]; generalize l.length = len at *; (try simp at hc); (try simp at hd); simp; omega)
  by_cases h3 : k = 3
  · subst h3; refine Pure.of (S := tt) (fn := Try.f53) (n := 86) tt_ok Try.func53 rfl rfl rfl rfl fun w0 h0 F hgs => ?_
    (repeat first|refine A.s rfl ?_|refine A.r rfl rfl ?_|refine A.w rfl rfl ?_|refine A.p rfl ?_|refine A.b rfl fun bx=>?_|refine A.t rfl fun bl=>?_|refine A.step rfl ?_|refine A.v rfl rfl ?_)
    refine A.cond rfl (fun hc => ?_) (fun hc => ?_)
    · (repeat first|refine A.s rfl ?_|refine A.r rfl rfl ?_|refine A.w rfl rfl ?_|refine A.p rfl ?_|refine A.b rfl fun bx=>?_|refine A.t rfl fun bl=>?_|refine A.step rfl ?_|refine A.v rfl rfl ?_); refine A.ret1 (Λ' := []) rfl rfl rfl (List.nil_sublist _) ⟨?_, rfl⟩; (refine Sb.eq (ab_iff ?_); simp only [shapeB, KE.kind, KE.oper, KE.to, KE.n, KE.v, KE.l, encKl_len]; generalize l.length = len at *; (try simp at hc); (try simp at hd); simp; omega)
    · (repeat first|refine A.s rfl ?_|refine A.r rfl rfl ?_|refine A.w rfl rfl ?_|refine A.p rfl ?_|refine A.b rfl fun bx=>?_|refine A.t rfl fun bl=>?_|refine A.step rfl ?_|refine A.v rfl rfl ?_); refine A.ret1 (Λ' := []) rfl rfl rfl (List.nil_sublist _) ⟨?_, rfl⟩; (refine Sb.eq (ab_iff ?_); simp only [shapeB, KE.kind, KE.oper, KE.to, KE.n, KE.v, KE.l, encKl_len]; generalize l.length = len at *; (try simp at hc); (try simp at hd); simp; omega)
  by_cases h4 : k = 4
  · subst h4; refine Pure.of (S := tt) (fn := Try.f53) (n := 86) tt_ok Try.func53 rfl rfl rfl rfl fun w0 h0 F hgs => ?_
    (repeat first|refine A.s rfl ?_|refine A.r rfl rfl ?_|refine A.w rfl rfl ?_|refine A.p rfl ?_|refine A.b rfl fun bx=>?_|refine A.t rfl fun bl=>?_|refine A.step rfl ?_|refine A.v rfl rfl ?_); refine A.ret1 (Λ' := []) rfl rfl rfl (List.nil_sublist _) ⟨?_, rfl⟩; (refine Sb.eq (ab_iff ?_); simp only [shapeB, KE.kind, KE.oper, KE.to, KE.n, KE.v, KE.l, encKl_len]; generalize l.length = len at *; (try simp at hc); (try simp at hd); simp; omega)
  by_cases h5 : k = 5
  · subst h5; refine Pure.of (S := tt) (fn := Try.f53) (n := 86) tt_ok Try.func53 rfl rfl rfl rfl fun w0 h0 F hgs => ?_
    (repeat first|refine A.s rfl ?_|refine A.r rfl rfl ?_|refine A.w rfl rfl ?_|refine A.p rfl ?_|refine A.b rfl fun bx=>?_|refine A.t rfl fun bl=>?_|refine A.step rfl ?_|refine A.v rfl rfl ?_); refine A.ret1 (Λ' := []) rfl rfl rfl (List.nil_sublist _) ⟨?_, rfl⟩; (refine Sb.eq (ab_iff ?_); simp only [shapeB, KE.kind, KE.oper, KE.to, KE.n, KE.v, KE.l, encKl_len]; generalize l.length = len at *; (try simp at hc); (try simp at hd); simp; omega)
  by_cases h6 : k = 6
  · subst h6; refine Pure.of (S := tt) (fn := Try.f53) (n := 86) tt_ok Try.func53 rfl rfl rfl rfl fun w0 h0 F hgs => ?_
    (repeat first|refine A.s rfl ?_|refine A.r rfl rfl ?_|refine A.w rfl rfl ?_|refine A.p rfl ?_|refine A.b rfl fun bx=>?_|refine A.t rfl fun bl=>?_|refine A.step rfl ?_|refine A.v rfl rfl ?_); refine A.ret1 (Λ' := []) rfl rfl rfl (List.nil_sublist _) ⟨?_, rfl⟩; (refine Sb.eq (ab_iff ?_); simp only [shapeB, KE.kind, KE.oper, KE.to, KE.n, KE.v, KE.l, encKl_len]; generalize l.length = len at *; (try simp at hc); (try simp at hd); simp; omega)
  refine Pure.of (S := tt) (fn := Try.f53) (n := 86) tt_ok Try.func53 rfl rfl rfl rfl fun w0 h0 F hgs => ?_
  (repeat (first | first|refine A.s rfl ?_|refine A.r rfl rfl ?_|refine A.w rfl rfl ?_|refine A.p rfl ?_|refine A.b rfl fun bx=>?_|refine A.t rfl fun bl=>?_ | refine A.cond rfl (fun h => (by simp at h; omega)) (fun _ => ?_) | first|refine A.step rfl ?_|refine A.v rfl rfl ?_)); refine A.ret1 (Λ' := []) rfl rfl rfl (List.nil_sublist _) ⟨?_, rfl⟩; refine Sb.eq ?_; simp [shapeB, *]
abbrev rowA (r : List Int) : AV := .sl 1 (r.map AI32) none
abbrev rowsA (s : List (List Int)) : AV := .sl 1 (s.map rowA) none
theorem some_p (v : Int) (ok : Bool) : Pure Try.prog gs0 54 [AI32 v, AB ok] (optA (if ok then some v else none)) := by
  refine Pure.of (S := tt) (fn := Try.f54) (n := 9) tt_ok Try.func54 rfl rfl rfl rfl fun w0 h0 F hgs => ?_
  (repeat first|refine A.s rfl ?_|refine A.r rfl rfl ?_|refine A.w rfl rfl ?_|refine A.p rfl ?_|refine A.b rfl fun bx=>?_|refine A.t rfl fun bl=>?_|refine A.step rfl ?_|refine A.v rfl rfl ?_)
  refine A.cond rfl (fun hc => ?_) (fun hc => ?_)
  · (repeat first|refine A.s rfl ?_|refine A.r rfl rfl ?_|refine A.w rfl rfl ?_|refine A.p rfl ?_|refine A.b rfl fun bx=>?_|refine A.t rfl fun bl=>?_|refine A.step rfl ?_|refine A.v rfl rfl ?_); refine A.ret2 (Λ' := []) rfl rfl rfl rfl (List.nil_sublist _) ⟨?_, rfl⟩; simp at hc; subst hc; exact .refl
  · (repeat first|refine A.s rfl ?_|refine A.r rfl rfl ?_|refine A.w rfl rfl ?_|refine A.p rfl ?_|refine A.b rfl fun bx=>?_|refine A.t rfl fun bl=>?_|refine A.step rfl ?_|refine A.v rfl rfl ?_); refine A.ret2 (Λ' := []) rfl rfl rfl rfl (List.nil_sublist _) ⟨?_, rfl⟩; simp at hc; subst hc; exact .refl

def fitsB (k v : Int) : Bool := if k = 2 then decide (0 ≤ v) && decide (v ≤ 255) else if k = 3 then v == 0 || v == 1 else k == 1
theorem fits_p (k v : Int) : Pure Try.prog gs0 32 [AU8 k, AI32 v] (AB (fitsB k v)) := by
  refine Pure.of (S := tt) (fn := Try.f32) (n := 24) tt_ok Try.func32 rfl rfl rfl rfl fun w0 h0 F hgs => ?_
  (repeat first|refine A.s rfl ?_|refine A.r rfl rfl ?_|refine A.w rfl rfl ?_|refine A.p rfl ?_|refine A.b rfl fun bx=>?_|refine A.t rfl fun bl=>?_|refine A.step rfl ?_|refine A.v rfl rfl ?_)
  refine A.cond rfl (fun hc => ?_) (fun hc => ?_)
  · (repeat first|refine A.s rfl ?_|refine A.r rfl rfl ?_|refine A.w rfl rfl ?_|refine A.p rfl ?_|refine A.b rfl fun bx=>?_|refine A.t rfl fun bl=>?_|refine A.step rfl ?_|refine A.v rfl rfl ?_); refine A.ret1 (Λ' := []) rfl rfl rfl (List.nil_sublist _) ⟨?_, rfl⟩; refine Sb.eq ?_; simp at hc; subst hc; simp [fitsB]
  · (repeat first|refine A.s rfl ?_|refine A.r rfl rfl ?_|refine A.w rfl rfl ?_|refine A.p rfl ?_|refine A.b rfl fun bx=>?_|refine A.t rfl fun bl=>?_|refine A.step rfl ?_|refine A.v rfl rfl ?_)
    refine A.cond rfl (fun hd => ?_) (fun hd => ?_)
    · (repeat first|refine A.s rfl ?_|refine A.r rfl rfl ?_|refine A.w rfl rfl ?_|refine A.p rfl ?_|refine A.b rfl fun bx=>?_|refine A.t rfl fun bl=>?_|refine A.step rfl ?_|refine A.v rfl rfl ?_); refine A.ret1 (Λ' := []) rfl rfl rfl (List.nil_sublist _) ⟨?_, rfl⟩; refine Sb.eq ?_; simp at hc hd; subst hd; simp [fitsB]
    · (repeat first|refine A.s rfl ?_|refine A.r rfl rfl ?_|refine A.w rfl rfl ?_|refine A.p rfl ?_|refine A.b rfl fun bx=>?_|refine A.t rfl fun bl=>?_|refine A.step rfl ?_|refine A.v rfl rfl ?_); refine A.ret1 (Λ' := []) rfl rfl rfl (List.nil_sublist _) ⟨?_, rfl⟩; refine Sb.eq ?_; simp at hc hd; simp [fitsB, hc, hd]
theorem conv_fits (k v : Int) : convC k v = if fitsB k v then some v else none := by
  unfold convC fitsB
  by_cases h1 : k = 1
  · subst h1; simp
  by_cases h2 : k = 2
  · subst h2; simp
  by_cases h3 : k = 3
  · subst h3; simp; by_cases h : 0 ≤ v ∧ v ≤ 1
    · rw [if_pos h, if_pos (by omega)]
    · rw [if_neg h, if_neg (by omega)]
  · simp [h1, h2, h3]

def atM (s : List (List Int)) (v i : Int) : Option Int := if v < 0 ∨ i < 0 then none else (s[v.toNat]?).bind (·[i.toNat]?)
theorem at_p (s : List (List Int)) (v i : Int) : Pure Try.prog gs0 23 [rowsA s, AI v, AI i] (optA (atM s v i)) := by
  refine Pure.of (S := tt) (fn := Try.f23) (n := 36) tt_ok Try.func23 rfl rfl rfl rfl fun w0 h0 F hgs => ?_
  ((repeat first|refine A.s rfl ?_|refine A.r rfl rfl ?_|refine A.w rfl rfl ?_|refine A.p rfl ?_|refine A.b rfl fun bx=>?_|refine A.t rfl fun bl=>?_|refine A.step rfl ?_|refine A.v rfl rfl ?_); refine A.split 20 rfl (fun hc => ?_) (fun hc => ?_); ((repeat first|refine A.s rfl ?_|refine A.r rfl rfl ?_|refine A.w rfl rfl ?_|refine A.p rfl ?_|refine A.b rfl fun bx=>?_|refine A.t rfl fun bl=>?_|refine A.step rfl ?_|refine A.v rfl rfl ?_); refine A.ret2 (Λ' := []) rfl rfl rfl rfl (List.nil_sublist _) ⟨?_, rfl⟩; refine Sb.eq ?_; simp at hc; have : atM s v i = none := (by unfold atM; split; rfl; rw [at_none (by omega)]; rfl); rw [this]; rfl); simp at hc; refine Exists.elim (at_ex hc.1.1 hc.1.2) fun r hr => ?_; have e1 : atM s v i = r[i.toNat]? := (by unfold atM; rw [if_neg (by omega), hr]; rfl); (repeat first|refine A.s rfl ?_|refine A.r rfl rfl ?_|refine A.w rfl rfl ?_|refine A.p rfl ?_|refine A.b rfl fun bx=>?_|refine A.t rfl fun bl=>?_|refine A.step rfl ?_|refine A.v rfl rfl ?_); refine A.x rfl (by omega) (map_at hr) rfl rfl ?_; (repeat first|refine A.s rfl ?_|refine A.r rfl rfl ?_|refine A.w rfl rfl ?_|refine A.p rfl ?_|refine A.b rfl fun bx=>?_|refine A.t rfl fun bl=>?_|refine A.step rfl ?_|refine A.v rfl rfl ?_); refine A.cond rfl (fun hd => ?_) (fun hd => ?_); (simp at hd; (repeat first|refine A.s rfl ?_|refine A.r rfl rfl ?_|refine A.w rfl rfl ?_|refine A.p rfl ?_|refine A.b rfl fun bx=>?_|refine A.t rfl fun bl=>?_|refine A.step rfl ?_|refine A.v rfl rfl ?_); refine A.ret2 (Λ' := []) rfl rfl rfl rfl (List.nil_sublist _) ⟨?_, rfl⟩; rw [e1, at_none hd]; exact .refl); simp at hd; (repeat first|refine A.s rfl ?_|refine A.r rfl rfl ?_|refine A.w rfl rfl ?_|refine A.p rfl ?_|refine A.b rfl fun bx=>?_|refine A.t rfl fun bl=>?_|refine A.step rfl ?_|refine A.v rfl rfl ?_); refine A.x rfl (by omega) (map_at hr) rfl rfl ?_; (repeat first|refine A.s rfl ?_|refine A.r rfl rfl ?_|refine A.w rfl rfl ?_|refine A.p rfl ?_|refine A.b rfl fun bx=>?_|refine A.t rfl fun bl=>?_|refine A.step rfl ?_|refine A.v rfl rfl ?_); refine Exists.elim (at_ex hc.2 hd) fun x hx => ?_; refine A.x rfl (by omega) (map_at hx) rfl rfl ?_; (repeat first|refine A.s rfl ?_|refine A.r rfl rfl ?_|refine A.w rfl rfl ?_|refine A.p rfl ?_|refine A.b rfl fun bx=>?_|refine A.t rfl fun bl=>?_|refine A.step rfl ?_|refine A.v rfl rfl ?_); refine A.ret2 (Λ' := []) rfl rfl rfl rfl (List.nil_sublist _) ⟨?_, rfl⟩; rw [e1, hx]; exact .refl)
end Go.Proofs.Ytbdjbmbghfbenaa
