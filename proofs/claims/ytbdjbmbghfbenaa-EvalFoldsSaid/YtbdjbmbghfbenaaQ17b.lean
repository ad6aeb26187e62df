/-
  Chapter 17: walks: the measure of an expression, by both texts.
-/
import Derived.Test.YtbdjbmbghfbenaaQ17a
import Derived.Test.YtbdjbmbghfbenaaLb

namespace Go.Proofs.Ytbdjbmbghfbenaa
open Go Go.Tp
set_option linter.unusedVariables false
set_option linter.unusedSimpArgs false
set_option maxRecDepth 100000
set_option maxHeartbeats 4000000

/-! ### eval.valid -/
def closV (b1 b2 : Nat) : AV := .fn 52 [] [.v (.pointer (some ⟨b1, 0, none⟩)), .v (.pointer (some ⟨b2, 0, none⟩))]
abbrev walkX (e : KE) (left deep : Int) : Int → AV := fun _ => AB (decide (fits e left (33 - deep)))
abbrev walkL (b1 b2 : Nat) : Int → List AEnt := fun i => [.box b1 (AI i), .box b2 (closV b1 b2)]
abbrev walkP (e : KE) (left deep : Int) : Int → Prop := fun i => fits e left (33 - deep) → i = left - sz e
theorem pe_enc {z : Nat} (a : KE) : AV.pe z (encK a) = .pe z (.ag [AU8 a.kind, AU8 a.oper, AU8 a.to, AI32 a.n, AI a.v, .sl 6 (encKl a.l) none]) := by rw [encK_eq]
theorem walkV (b1 b2 : Nat) : ∀ (N : Nat) (e : KE) (left deep : Int), sz e ≤ N → wfK e → 0 ≤ left → left ≤ 256 → 1 ≤ deep → deep ≤ 33 →
    FunE Try.prog gs0 52 [encK e, AI deep, .v (.pointer (some ⟨b1, 0, none⟩)), .v (.pointer (some ⟨b2, 0, none⟩))] [.box b1 (AI left), .box b2 (closV b1 b2)] (walkX e left deep) (walkL b1 b2) (walkP e left deep)
  | 0, e, left, deep, hn, _, _, _, _, _ => by have := sz_pos e; omega
  | N + 1, e, left, deep, hn, hw, r0, r1, d0, d1 => by
    have hw1 : IntKind.i64.wrap (left - 1) = left - 1 := wr64 _ (by omega)
    have hp := plain_p e hw
    rw [encK_eq] at hp ⊢
    unfold FunE
    by_cases hz : left = 0 ∨ deep = 33
    · have hnf : ¬ fits e left (33 - deep) := fits_not (by omega)
      refine Fun.of (S := tt) (fn := Try.f52) (n := 36) tt_ok Try.func52 rfl rfl rfl rfl fun w0 h0 F hgs => ?_
      (repeat first|refine A.s rfl ?_|refine A.r rfl rfl ?_|refine A.w rfl rfl ?_|refine A.p rfl ?_|refine A.b rfl fun bx=>?_|refine A.t rfl fun bl=>?_|refine A.step rfl ?_|refine A.v rfl rfl ?_)
      refine A.valE 17 rfl (x' := AB true) (ab_eq (by rw [hw1]; simp; omega)) ?_
      (repeat first|refine A.s rfl ?_|refine A.r rfl rfl ?_|refine A.w rfl rfl ?_|refine A.p rfl ?_|refine A.b rfl fun bx=>?_|refine A.t rfl fun bl=>?_|refine A.step rfl ?_|refine A.v rfl rfl ?_); (refine A.ret1 (Λ' := [.box b1 _, .box b2 _]) rfl rfl rfl (by repeat (first | exact List.Sublist.refl _ | apply List.Sublist.cons_cons | apply List.Sublist.cons)) ⟨_, Sb.eq (ab_eq ?_), rfl, ?_⟩; exact (decide_eq_false hnf).symm; exact fun h => absurd h hnf)
    have hw2 : IntKind.i64.wrap (deep + 1) = deep + 1 := wr64 _ (by omega)
    have h17 : ∀ b : Bool, (bif decide (IntKind.i64.wrap (left - 1) < 0) then true else decide (32 < deep)) = b → b = false := by intro b hb; subst hb; rw [hw1]; simp; omega
    by_cases hs : shapeB e = true
    case neg =>
      have hs : shapeB e = false := by simpa using hs
      have hnf : ¬ fits e left (33 - deep) := fits_not (by simp [hs])
      refine Fun.of (S := tt) (fn := Try.f52) (n := 36) tt_ok Try.func52 rfl rfl rfl rfl fun w0 h0 F hgs => ?_
      (repeat first|refine A.s rfl ?_|refine A.r rfl rfl ?_|refine A.w rfl rfl ?_|refine A.p rfl ?_|refine A.b rfl fun bx=>?_|refine A.t rfl fun bl=>?_|refine A.step rfl ?_|refine A.v rfl rfl ?_)
      refine A.valE 17 rfl (x' := AB false) (ab_eq (h17 _ rfl)) ?_
      (repeat first|refine A.s rfl ?_|refine A.r rfl rfl ?_|refine A.w rfl rfl ?_|refine A.p rfl ?_|refine A.b rfl fun bx=>?_|refine A.t rfl fun bl=>?_|refine A.step rfl ?_|refine A.v rfl rfl ?_)
      refine A.c rfl (hp) .refl ?_
      refine A.valE 19 rfl (x' := AB false) (ab_eq hs) ?_
      (repeat first|refine A.s rfl ?_|refine A.r rfl rfl ?_|refine A.w rfl rfl ?_|refine A.p rfl ?_|refine A.b rfl fun bx=>?_|refine A.t rfl fun bl=>?_|refine A.step rfl ?_|refine A.v rfl rfl ?_); (refine A.ret1 (Λ' := [.box b1 _, .box b2 _]) rfl rfl rfl (by repeat (first | exact List.Sublist.refl _ | apply List.Sublist.cons_cons | apply List.Sublist.cons)) ⟨_, Sb.eq (ab_eq ?_), rfl, ?_⟩; exact (decide_eq_false hnf).symm; exact fun h => absurd h hnf)
    rcases shape_cases hs with ⟨k, o, t, n, v, rfl⟩ | ⟨k, o, t, n, v, a, rfl⟩ | ⟨k, o, t, n, v, a, b, rfl⟩
    · simp only [encKl] at hp ⊢
      have hf := (fits0 (room := left) (deep := 33 - deep) hs).2 (by omega)
      refine Fun.of (S := tt) (fn := Try.f52) (n := 36) tt_ok Try.func52 rfl rfl rfl rfl fun w0 h0 F hgs => ?_
      (repeat first|refine A.s rfl ?_|refine A.r rfl rfl ?_|refine A.w rfl rfl ?_|refine A.p rfl ?_|refine A.b rfl fun bx=>?_|refine A.t rfl fun bl=>?_|refine A.step rfl ?_|refine A.v rfl rfl ?_)
      refine A.valE 17 rfl (x' := AB false) (ab_eq (h17 _ rfl)) ?_
      (repeat first|refine A.s rfl ?_|refine A.r rfl rfl ?_|refine A.w rfl rfl ?_|refine A.p rfl ?_|refine A.b rfl fun bx=>?_|refine A.t rfl fun bl=>?_|refine A.step rfl ?_|refine A.v rfl rfl ?_)
      refine A.c rfl (hp) .refl ?_
      refine A.valE 19 rfl (x' := AB true) (ab_eq hs) ?_
      (repeat first|refine A.s rfl ?_|refine A.r rfl rfl ?_|refine A.w rfl rfl ?_|refine A.p rfl ?_|refine A.b rfl fun bx=>?_|refine A.t rfl fun bl=>?_|refine A.step rfl ?_|refine A.v rfl rfl ?_)
      refine A.loop1 ?_
      (repeat first|refine A.s rfl ?_|refine A.r rfl rfl ?_|refine A.w rfl rfl ?_|refine A.p rfl ?_|refine A.b rfl fun bx=>?_|refine A.t rfl fun bl=>?_|refine A.step rfl ?_|refine A.v rfl rfl ?_)
      refine A.ret1 (Λ' := [.box b1 _, .box b2 _]) rfl rfl rfl (by repeat (first | exact List.Sublist.refl _ | apply List.Sublist.cons_cons | apply List.Sublist.cons)) ⟨_, Sb.eq (ab_eq ?_), rfl, ?_⟩
      · exact (decide_eq_true hf).symm
      · intro _; simp [sz, szl, hw1]
    · simp only [encKl] at hp ⊢
      simp only [sz, szl] at hn
      have hf := fits1 (room := left) (deep := 33 - deep) hs
      have ih := walkV b1 b2 N a (IntKind.i64.wrap (left - 1)) (deep + 1) (by omega) (wfK1 hw) (by omega) (by omega) (by omega) (by omega)
      rw [encK_eq] at ih
      refine Fun.of (S := tt) (fn := Try.f52) (n := 36) tt_ok Try.func52 rfl rfl rfl rfl fun w0 h0 F hgs => ?_
      (repeat first|refine A.s rfl ?_|refine A.r rfl rfl ?_|refine A.w rfl rfl ?_|refine A.p rfl ?_|refine A.b rfl fun bx=>?_|refine A.t rfl fun bl=>?_|refine A.step rfl ?_|refine A.v rfl rfl ?_)
      refine A.valE 17 rfl (x' := AB false) (ab_eq (h17 _ rfl)) ?_
      (repeat first|refine A.s rfl ?_|refine A.r rfl rfl ?_|refine A.w rfl rfl ?_|refine A.p rfl ?_|refine A.b rfl fun bx=>?_|refine A.t rfl fun bl=>?_|refine A.step rfl ?_|refine A.v rfl rfl ?_)
      refine A.c rfl (hp) .refl ?_
      refine A.valE 19 rfl (x' := AB true) (ab_eq hs) ?_
      (repeat first|refine A.s rfl ?_|refine A.r rfl rfl ?_|refine A.w rfl rfl ?_|refine A.p rfl ?_|refine A.b rfl fun bx=>?_|refine A.t rfl fun bl=>?_|refine A.step rfl ?_|refine A.v rfl rfl ?_)
      refine A.loop1 ?_
      (repeat first|refine A.s rfl ?_|refine A.r rfl rfl ?_|refine A.w rfl rfl ?_|refine A.p rfl ?_|refine A.b rfl fun bx=>?_|refine A.t rfl fun bl=>?_|refine A.step rfl ?_|refine A.v rfl rfl ?_)
      refine A.x rfl (by decide) rfl rfl rfl ?_
      refine A.valE 27 rfl (pe_enc a) ?_
      (repeat first|refine A.s rfl ?_|refine A.r rfl rfl ?_|refine A.w rfl rfl ?_|refine A.p rfl ?_|refine A.b rfl fun bx=>?_|refine A.t rfl fun bl=>?_|refine A.step rfl ?_|refine A.v rfl rfl ?_)
      refine A.valE 32 rfl (x' := AI (deep + 1)) (ai_eq hw2) ?_
      refine A.e rfl ih .refl (List.perm_append_comm (l₁ := [_, _]) (l₂ := [_, _])) fun lf hlf => ?_
      (repeat first|refine A.s rfl ?_|refine A.r rfl rfl ?_|refine A.w rfl rfl ?_|refine A.p rfl ?_|refine A.b rfl fun bx=>?_|refine A.t rfl fun bl=>?_|refine A.step rfl ?_|refine A.v rfl rfl ?_)
      have e3 : 33 - deep - 1 = 33 - (deep + 1) := by omega
      rw [e3] at hf
      rw [hw1] at hlf
      refine A.cond rfl (fun hc => ?_) (fun hc => ?_)
      · simp [hw1] at hc
        have hnf : ¬ fits ⟨k, o, t, n, v, [a]⟩ left (33 - deep) := fun h => hc (hf.1 h)
        (repeat first|refine A.s rfl ?_|refine A.r rfl rfl ?_|refine A.w rfl rfl ?_|refine A.p rfl ?_|refine A.b rfl fun bx=>?_|refine A.t rfl fun bl=>?_|refine A.step rfl ?_|refine A.v rfl rfl ?_); (refine A.ret1 (Λ' := [.box b1 _, .box b2 _]) rfl rfl rfl (by repeat (first | exact List.Sublist.refl _ | apply List.Sublist.cons_cons | apply List.Sublist.cons)) ⟨_, Sb.eq (ab_eq ?_), rfl, ?_⟩; exact (decide_eq_false hnf).symm; exact fun h => absurd h hnf)
      · simp [hw1] at hc
        (repeat first|refine A.s rfl ?_|refine A.r rfl rfl ?_|refine A.w rfl rfl ?_|refine A.p rfl ?_|refine A.b rfl fun bx=>?_|refine A.t rfl fun bl=>?_|refine A.step rfl ?_|refine A.v rfl rfl ?_); refine A.again ?_; (repeat first|refine A.s rfl ?_|refine A.r rfl rfl ?_|refine A.w rfl rfl ?_|refine A.p rfl ?_|refine A.b rfl fun bx=>?_|refine A.t rfl fun bl=>?_|refine A.step rfl ?_|refine A.v rfl rfl ?_); refine A.ret1 (Λ' := [.box b1 _, .box b2 _]) rfl rfl rfl (by repeat (first | exact List.Sublist.refl _ | apply List.Sublist.cons_cons | apply List.Sublist.cons)) ⟨_, Sb.eq (ab_eq ?_), rfl, ?_⟩
        · exact (decide_eq_true (hf.2 hc)).symm
        · intro _; have := hlf hc; simp [sz, szl]; omega
    · simp only [encKl] at hp ⊢
      simp only [sz, szl] at hn
      have hf := fits2 (room := left) (deep := 33 - deep) hs
      have ha := sz_pos a
      have hb := sz_pos b
      have ih := walkV b1 b2 N a (IntKind.i64.wrap (left - 1)) (deep + 1) (by omega) (wfK2 hw).1 (by omega) (by omega) (by omega) (by omega)
      have e3 : 33 - deep - 1 = 33 - (deep + 1) := by omega
      rw [e3] at hf
      rw [encK_eq] at ih
      refine Fun.of (S := tt) (fn := Try.f52) (n := 36) tt_ok Try.func52 rfl rfl rfl rfl fun w0 h0 F hgs => ?_
      (repeat first|refine A.s rfl ?_|refine A.r rfl rfl ?_|refine A.w rfl rfl ?_|refine A.p rfl ?_|refine A.b rfl fun bx=>?_|refine A.t rfl fun bl=>?_|refine A.step rfl ?_|refine A.v rfl rfl ?_)
      refine A.valE 17 rfl (x' := AB false) (ab_eq (h17 _ rfl)) ?_
      (repeat first|refine A.s rfl ?_|refine A.r rfl rfl ?_|refine A.w rfl rfl ?_|refine A.p rfl ?_|refine A.b rfl fun bx=>?_|refine A.t rfl fun bl=>?_|refine A.step rfl ?_|refine A.v rfl rfl ?_)
      refine A.c rfl (hp) .refl ?_
      refine A.valE 19 rfl (x' := AB true) (ab_eq hs) ?_
      (repeat first|refine A.s rfl ?_|refine A.r rfl rfl ?_|refine A.w rfl rfl ?_|refine A.p rfl ?_|refine A.b rfl fun bx=>?_|refine A.t rfl fun bl=>?_|refine A.step rfl ?_|refine A.v rfl rfl ?_)
      refine A.loop1 ?_
      (repeat first|refine A.s rfl ?_|refine A.r rfl rfl ?_|refine A.w rfl rfl ?_|refine A.p rfl ?_|refine A.b rfl fun bx=>?_|refine A.t rfl fun bl=>?_|refine A.step rfl ?_|refine A.v rfl rfl ?_)
      refine A.x rfl (by decide) rfl rfl rfl ?_
      refine A.valE 27 rfl (pe_enc a) ?_
      (repeat first|refine A.s rfl ?_|refine A.r rfl rfl ?_|refine A.w rfl rfl ?_|refine A.p rfl ?_|refine A.b rfl fun bx=>?_|refine A.t rfl fun bl=>?_|refine A.step rfl ?_|refine A.v rfl rfl ?_)
      refine A.valE 32 rfl (x' := AI (deep + 1)) (ai_eq hw2) ?_
      refine A.e rfl ih .refl (List.perm_append_comm (l₁ := [_, _]) (l₂ := [_, _])) fun lf hlf => ?_
      refine A.less (Λ' := [.box b1 (AI lf), .box b2 (closV b1 b2)]) (by repeat (first | exact List.Sublist.refl _ | apply List.Sublist.cons_cons | apply List.Sublist.cons)) ?_
      (repeat first|refine A.s rfl ?_|refine A.r rfl rfl ?_|refine A.w rfl rfl ?_|refine A.p rfl ?_|refine A.b rfl fun bx=>?_|refine A.t rfl fun bl=>?_|refine A.step rfl ?_|refine A.v rfl rfl ?_)
      rw [hw1] at hlf
      refine A.cond rfl (fun hc => ?_) (fun hc => ?_)
      · simp [hw1] at hc
        have hnf : ¬ fits ⟨k, o, t, n, v, [a, b]⟩ left (33 - deep) := fun h => hc (hf.1 h).1
        (repeat first|refine A.s rfl ?_|refine A.r rfl rfl ?_|refine A.w rfl rfl ?_|refine A.p rfl ?_|refine A.b rfl fun bx=>?_|refine A.t rfl fun bl=>?_|refine A.step rfl ?_|refine A.v rfl rfl ?_); (refine A.ret1 (Λ' := [.box b1 _, .box b2 _]) rfl rfl rfl (by repeat (first | exact List.Sublist.refl _ | apply List.Sublist.cons_cons | apply List.Sublist.cons)) ⟨_, Sb.eq (ab_eq ?_), rfl, ?_⟩; exact (decide_eq_false hnf).symm; exact fun h => absurd h hnf)
      simp [hw1] at hc
      have hlf := hlf hc
      have h2 := hc.2.1
      have ih2 := walkV b1 b2 N b lf (deep + 1) (by omega) (wfK2 hw).2 (by omega) (by omega) (by omega) (by omega)
      rw [encK_eq] at ih2
      (repeat first|refine A.s rfl ?_|refine A.r rfl rfl ?_|refine A.w rfl rfl ?_|refine A.p rfl ?_|refine A.b rfl fun bx=>?_|refine A.t rfl fun bl=>?_|refine A.step rfl ?_|refine A.v rfl rfl ?_); refine A.again ?_; (repeat first|refine A.s rfl ?_|refine A.r rfl rfl ?_|refine A.w rfl rfl ?_|refine A.p rfl ?_|refine A.b rfl fun bx=>?_|refine A.t rfl fun bl=>?_|refine A.step rfl ?_|refine A.v rfl rfl ?_)
      refine A.x rfl (by decide) rfl rfl rfl ?_
      refine A.valE 27 rfl (pe_enc b) ?_
      (repeat first|refine A.s rfl ?_|refine A.r rfl rfl ?_|refine A.w rfl rfl ?_|refine A.p rfl ?_|refine A.b rfl fun bx=>?_|refine A.t rfl fun bl=>?_|refine A.step rfl ?_|refine A.v rfl rfl ?_)
      refine A.valE 32 rfl (x' := AI (deep + 1)) (ai_eq hw2) ?_
      refine A.e rfl ih2 .refl (List.perm_append_comm (l₁ := [_]) (l₂ := [_, _])) fun lf2 hlf2 => ?_
      have e4 : left - (1 + (sz a : Int)) = lf := by omega
      rw [e4] at hf
      (repeat first|refine A.s rfl ?_|refine A.r rfl rfl ?_|refine A.w rfl rfl ?_|refine A.p rfl ?_|refine A.b rfl fun bx=>?_|refine A.t rfl fun bl=>?_|refine A.step rfl ?_|refine A.v rfl rfl ?_)
      refine A.cond rfl (fun hc => ?_) (fun hc => ?_)
      · simp at hc
        have hnf : ¬ fits ⟨k, o, t, n, v, [a, b]⟩ left (33 - deep) := fun h => hc (hf.1 h).2
        (repeat first|refine A.s rfl ?_|refine A.r rfl rfl ?_|refine A.w rfl rfl ?_|refine A.p rfl ?_|refine A.b rfl fun bx=>?_|refine A.t rfl fun bl=>?_|refine A.step rfl ?_|refine A.v rfl rfl ?_); (refine A.ret1 (Λ' := [.box b1 _, .box b2 _]) rfl rfl rfl (by repeat (first | exact List.Sublist.refl _ | apply List.Sublist.cons_cons | apply List.Sublist.cons)) ⟨_, Sb.eq (ab_eq ?_), rfl, ?_⟩; exact (decide_eq_false hnf).symm; exact fun h => absurd h hnf)
      · rename_i hca
        simp at hc
        (repeat first|refine A.s rfl ?_|refine A.r rfl rfl ?_|refine A.w rfl rfl ?_|refine A.p rfl ?_|refine A.b rfl fun bx=>?_|refine A.t rfl fun bl=>?_|refine A.step rfl ?_|refine A.v rfl rfl ?_); refine A.again ?_; (repeat first|refine A.s rfl ?_|refine A.r rfl rfl ?_|refine A.w rfl rfl ?_|refine A.p rfl ?_|refine A.b rfl fun bx=>?_|refine A.t rfl fun bl=>?_|refine A.step rfl ?_|refine A.v rfl rfl ?_); refine A.ret1 (Λ' := [.box b1 _, .box b2 _]) rfl rfl rfl (by repeat (first | exact List.Sublist.refl _ | apply List.Sublist.cons_cons | apply List.Sublist.cons)) ⟨_, Sb.eq (ab_eq ?_), rfl, ?_⟩
        · exact (decide_eq_true (hf.2 ⟨hca, hc⟩)).symm
        · intro _; have := hlf2 hc; simp [sz, szl]; omega
theorem evalid_p (e : KE) (hw : wfK e) : Pure Try.prog gs0 40 [encK e] (AB (decide (valid e))) := by
  have hp := fun b1 b2 => walkV b1 b2 (sz e) e 256 1 (Nat.le_refl _) hw (by decide) (by decide) (by decide) (by decide)
  simp only [encK_eq e] at hp
  rw [encK_eq]
  refine Pure.of (S := tt) (fn := Try.f40) (n := 9) tt_ok Try.func40 rfl rfl rfl rfl fun w0 h0 F hgs => ?_
  (repeat first|refine A.s rfl ?_|refine A.r rfl rfl ?_|refine A.w rfl rfl ?_|refine A.p rfl ?_|refine A.b rfl fun bx=>?_|refine A.t rfl fun bl=>?_|refine A.step rfl ?_|refine A.v rfl rfl ?_)
  refine A.e rfl (hp _ _) .refl (List.Perm.swap _ _ _) fun lf _ => ?_
  (repeat first|refine A.s rfl ?_|refine A.r rfl rfl ?_|refine A.w rfl rfl ?_|refine A.p rfl ?_|refine A.b rfl fun bx=>?_|refine A.t rfl fun bl=>?_|refine A.step rfl ?_|refine A.v rfl rfl ?_)
  refine A.ret1 (Λ' := []) rfl rfl rfl (List.nil_sublist _) ⟨?_, rfl⟩
  exact .refl

/-! ### ref16.Valid -/
def roomI (e : KE) (inside left : Int) : Int := if fits e left (32 - inside) then left - sz e else -1
end Go.Proofs.Ytbdjbmbghfbenaa
