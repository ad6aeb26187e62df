/-
  Chapter 14: words: walks of word, of the reference's words.
-/
import Derived.Test.YtbdjbmbghfbenaaQ0

namespace Go.Proofs.Ytbdjbmbghfbenaa
open Go Go.Tp
set_option linter.unusedVariables false
set_option linter.unusedSimpArgs false
set_option maxRecDepth 100000
set_option maxHeartbeats 4000000

def fitB (n : Int) : Bool := decide (-2147483648 ≤ n) && decide (n < 2147483648)
theorem w32_fit (n : Int) : (IntKind.i32.wrap n == n) = fitB n := by
  rw [Bool.eq_iff_iff]; simp [fitB]; rw [w32_eq]; omega
def fit32 (n : Int) : Option Int := if fitB n then some n else none
def tsum (a b : Int) : Int := IntKind.i32.wrap (a + b)

/-! ### word -/
theorem reduce_p (t : Int) (ht : i64 t) : Pure Try.prog gs0 89 [AI t] (.tp [AI32 (w32 t), AB (!fitB t)]) := by
  refine Pure.of (S := tt) (fn := Try.f89) (n := 11) tt_ok Try.func89 rfl rfl rfl rfl fun w0 h0 F hgs => ?_
  (repeat first|refine A.s rfl ?_|refine A.r rfl rfl ?_|refine A.w rfl rfl ?_|refine A.p rfl ?_|refine A.b rfl fun bx=>?_|refine A.t rfl fun bl=>?_|refine A.step rfl ?_|refine A.v rfl rfl ?_); refine A.ret2 (Λ' := []) rfl rfl rfl rfl (List.nil_sublist _) ⟨?_, rfl⟩
  refine Sb.eq ?_
  have h1 : IntKind.i64.wrap (IntKind.i32.wrap t) = IntKind.i32.wrap t := w64_32 (w32_in t)
  rw [h1, ← w32_fit]; rfl
theorem wadd_p (a b : Int) (ha : i32 a) (hb : i32 b) : Pure Try.prog gs0 74 [AI32 a, AI32 b] (.tp [AI32 (w32 (a + b)), AB (!fitB (a + b))]) := by
  have h : i64 (a + b) := by unfold i32 at ha hb; unfold i64; omega
  refine Pure.of (S := tt) (fn := Try.f74) (n := 14) tt_ok Try.func74 rfl rfl rfl rfl fun w0 h0 F hgs => ?_
  (repeat first|refine A.s rfl ?_|refine A.r rfl rfl ?_|refine A.w rfl rfl ?_|refine A.p rfl ?_|refine A.b rfl fun bx=>?_|refine A.t rfl fun bl=>?_|refine A.step rfl ?_|refine A.v rfl rfl ?_)
  refine A.valE 10 rfl (x' := AI (a + b)) (by rw [w64_32 ha, w64_32 hb, w64_id h]) ?_
  refine A.c rfl (reduce_p _ h) .refl ?_
  (repeat first|refine A.s rfl ?_|refine A.r rfl rfl ?_|refine A.w rfl rfl ?_|refine A.p rfl ?_|refine A.b rfl fun bx=>?_|refine A.t rfl fun bl=>?_|refine A.step rfl ?_|refine A.v rfl rfl ?_); refine A.ret2 (Λ' := []) rfl rfl rfl rfl (List.nil_sublist _) ⟨?_, rfl⟩; exact .refl
theorem wsub_p (a b : Int) (ha : i32 a) (hb : i32 b) : Pure Try.prog gs0 75 [AI32 a, AI32 b] (.tp [AI32 (w32 (a - b)), AB (!fitB (a - b))]) := by
  have h : i64 (a - b) := by unfold i32 at ha hb; unfold i64; omega
  refine Pure.of (S := tt) (fn := Try.f75) (n := 14) tt_ok Try.func75 rfl rfl rfl rfl fun w0 h0 F hgs => ?_
  (repeat first|refine A.s rfl ?_|refine A.r rfl rfl ?_|refine A.w rfl rfl ?_|refine A.p rfl ?_|refine A.b rfl fun bx=>?_|refine A.t rfl fun bl=>?_|refine A.step rfl ?_|refine A.v rfl rfl ?_)
  refine A.valE 10 rfl (x' := AI (a - b)) (by rw [w64_32 ha, w64_32 hb, w64_id h]) ?_
  refine A.c rfl (reduce_p _ h) .refl ?_
  (repeat first|refine A.s rfl ?_|refine A.r rfl rfl ?_|refine A.w rfl rfl ?_|refine A.p rfl ?_|refine A.b rfl fun bx=>?_|refine A.t rfl fun bl=>?_|refine A.step rfl ?_|refine A.v rfl rfl ?_); refine A.ret2 (Λ' := []) rfl rfl rfl rfl (List.nil_sublist _) ⟨?_, rfl⟩; exact .refl
theorem mul_bound {a b : Int} (ha : i32 a) (hb : i32 b) : i64 (a * b) := by
  unfold i32 at ha hb; unfold i64
  have h1 : a.natAbs ≤ 2147483648 := by omega
  have h2 : b.natAbs ≤ 2147483648 := by omega
  have h3 : (a * b).natAbs ≤ 2147483648 * 2147483648 := by rw [Int.natAbs_mul]; exact Nat.mul_le_mul h1 h2
  omega
theorem wmul_p (a b : Int) (ha : i32 a) (hb : i32 b) : Pure Try.prog gs0 76 [AI32 a, AI32 b] (.tp [AI32 (w32 (a * b)), AB (!fitB (a * b))]) := by
  have h : i64 (a * b) := mul_bound ha hb
  refine Pure.of (S := tt) (fn := Try.f76) (n := 14) tt_ok Try.func76 rfl rfl rfl rfl fun w0 h0 F hgs => ?_
  (repeat first|refine A.s rfl ?_|refine A.r rfl rfl ?_|refine A.w rfl rfl ?_|refine A.p rfl ?_|refine A.b rfl fun bx=>?_|refine A.t rfl fun bl=>?_|refine A.step rfl ?_|refine A.v rfl rfl ?_)
  refine A.valE 10 rfl (x' := AI (a * b)) (by rw [w64_32 ha, w64_32 hb, w64_id h]) ?_
  refine A.c rfl (reduce_p _ h) .refl ?_
  (repeat first|refine A.s rfl ?_|refine A.r rfl rfl ?_|refine A.w rfl rfl ?_|refine A.p rfl ?_|refine A.b rfl fun bx=>?_|refine A.t rfl fun bl=>?_|refine A.step rfl ?_|refine A.v rfl rfl ?_); refine A.ret2 (Λ' := []) rfl rfl rfl rfl (List.nil_sublist _) ⟨?_, rfl⟩; exact .refl
def divB (a b : Int) : Bool := b == 0 || (a == -2147483648 && b == -1)
def divM (a b : Int) : Int := if divB a b then 0 else a.tdiv b
theorem tdiv_in {a b : Int} (ha : i32 a) (hb : divB a b = false) : i32 (a.tdiv b) := by
  unfold i32 at ha ⊢
  simp [divB] at hb
  have h1 : (a.tdiv b).natAbs ≤ a.natAbs := by rw [Int.natAbs_tdiv]; exact Nat.div_le_self _ _
  by_cases h : a = -2147483648
  · subst h
    have hb1 : b ≠ -1 := hb.2 rfl
    by_cases h2 : b = 1
    · subst h2; decide
    · have : (Int.tdiv (-2147483648) b).natAbs ≤ 1073741824 := by
        rw [Int.natAbs_tdiv]
        have : 2 ≤ b.natAbs := by omega
        calc (Int.natAbs (-2147483648)) / b.natAbs ≤ 2147483648 / 2 := Nat.div_le_div (by decide) this (by decide)
          _ = 1073741824 := by decide
      omega
  · omega
theorem wdiv_p (a b : Int) (ha : i32 a) (hb : i32 b) : Pure Try.prog gs0 77 [AI32 a, AI32 b] (.tp [AI32 (divM a b), AB (divB a b)]) := by
  refine Pure.of (S := tt) (fn := Try.f77) (n := 19) tt_ok Try.func77 rfl rfl rfl rfl fun w0 h0 F hgs => ?_
  (repeat first|refine A.s rfl ?_|refine A.r rfl rfl ?_|refine A.w rfl rfl ?_|refine A.p rfl ?_|refine A.b rfl fun bx=>?_|refine A.t rfl fun bl=>?_|refine A.step rfl ?_|refine A.v rfl rfl ?_)
  refine A.cond rfl (fun hc => ?_) (fun hc => ?_)
  · (repeat first|refine A.s rfl ?_|refine A.r rfl rfl ?_|refine A.w rfl rfl ?_|refine A.p rfl ?_|refine A.b rfl fun bx=>?_|refine A.t rfl fun bl=>?_|refine A.step rfl ?_|refine A.v rfl rfl ?_); refine A.ret2 (Λ' := []) rfl rfl rfl rfl (List.nil_sublist _) ⟨?_, rfl⟩; refine Sb.eq ?_
    have h : divB a b = true := by simp at hc; simp [divB]; exact hc
    simp [divM, h]
  · have h : divB a b = false := by simp at hc; simp [divB]; exact hc
    (repeat first|refine A.s rfl ?_|refine A.r rfl rfl ?_|refine A.w rfl rfl ?_|refine A.p rfl ?_|refine A.b rfl fun bx=>?_|refine A.t rfl fun bl=>?_|refine A.step rfl ?_|refine A.v rfl rfl ?_)
    refine A.divrem rfl rfl rfl rfl rfl rfl rfl (by simp [divB] at h; exact h.1) ?_
    (repeat first|refine A.s rfl ?_|refine A.r rfl rfl ?_|refine A.w rfl rfl ?_|refine A.p rfl ?_|refine A.b rfl fun bx=>?_|refine A.t rfl fun bl=>?_|refine A.step rfl ?_|refine A.v rfl rfl ?_); refine A.ret2 (Λ' := []) rfl rfl rfl rfl (List.nil_sublist _) ⟨?_, rfl⟩; refine Sb.eq ?_
    show AV.tp [AI32 (IntKind.i32.wrap (a.tdiv b)), _] = _
    rw [w32_id (tdiv_in ha h)]; simp [divM, h]
def remM (a b : Int) : Int := if b = 0 then 0 else a.tmod b
theorem wrem_p (a b : Int) (ha : i32 a) (hb : i32 b) : Pure Try.prog gs0 78 [AI32 a, AI32 b] (.tp [AI32 (remM a b), AB (b == 0)]) := by
  refine Pure.of (S := tt) (fn := Try.f78) (n := 14) tt_ok Try.func78 rfl rfl rfl rfl fun w0 h0 F hgs => ?_
  (repeat first|refine A.s rfl ?_|refine A.r rfl rfl ?_|refine A.w rfl rfl ?_|refine A.p rfl ?_|refine A.b rfl fun bx=>?_|refine A.t rfl fun bl=>?_|refine A.step rfl ?_|refine A.v rfl rfl ?_)
  refine A.cond rfl (fun hc => ?_) (fun hc => ?_)
  · (repeat first|refine A.s rfl ?_|refine A.r rfl rfl ?_|refine A.w rfl rfl ?_|refine A.p rfl ?_|refine A.b rfl fun bx=>?_|refine A.t rfl fun bl=>?_|refine A.step rfl ?_|refine A.v rfl rfl ?_); refine A.ret2 (Λ' := []) rfl rfl rfl rfl (List.nil_sublist _) ⟨?_, rfl⟩; refine Sb.eq ?_; simp at hc; simp [hc, remM]
  · simp at hc
    (repeat first|refine A.s rfl ?_|refine A.r rfl rfl ?_|refine A.w rfl rfl ?_|refine A.p rfl ?_|refine A.b rfl fun bx=>?_|refine A.t rfl fun bl=>?_|refine A.step rfl ?_|refine A.v rfl rfl ?_)
    refine A.cond rfl (fun hd => ?_) (fun hd => ?_)
    · (repeat first|refine A.s rfl ?_|refine A.r rfl rfl ?_|refine A.w rfl rfl ?_|refine A.p rfl ?_|refine A.b rfl fun bx=>?_|refine A.t rfl fun bl=>?_|refine A.step rfl ?_|refine A.v rfl rfl ?_); refine A.ret2 (Λ' := []) rfl rfl rfl rfl (List.nil_sublist _) ⟨?_, rfl⟩; refine Sb.eq ?_; simp at hd; subst hd; simp [remM]
    · (repeat first|refine A.s rfl ?_|refine A.r rfl rfl ?_|refine A.w rfl rfl ?_|refine A.p rfl ?_|refine A.b rfl fun bx=>?_|refine A.t rfl fun bl=>?_|refine A.step rfl ?_|refine A.v rfl rfl ?_)
      refine A.divrem rfl rfl rfl rfl rfl rfl rfl hc ?_
      (repeat first|refine A.s rfl ?_|refine A.r rfl rfl ?_|refine A.w rfl rfl ?_|refine A.p rfl ?_|refine A.b rfl fun bx=>?_|refine A.t rfl fun bl=>?_|refine A.step rfl ?_|refine A.v rfl rfl ?_); refine A.ret2 (Λ' := []) rfl rfl rfl rfl (List.nil_sublist _) ⟨?_, rfl⟩; refine Sb.eq ?_
      show AV.tp [AI32 (a.tmod b), _] = _
      simp [remM, hc]
theorem wsum_p (a b : Int) : Pure Try.prog gs0 61 [AI32 a, AI32 b] (AI32 (w32 (a + b))) := by
  refine Pure.of (S := tt) (fn := Try.f61) (n := 8) tt_ok Try.func61 rfl rfl rfl rfl fun w0 h0 F hgs => ?_
  (repeat first|refine A.s rfl ?_|refine A.r rfl rfl ?_|refine A.w rfl rfl ?_|refine A.p rfl ?_|refine A.b rfl fun bx=>?_|refine A.t rfl fun bl=>?_|refine A.step rfl ?_|refine A.v rfl rfl ?_); refine A.ret1 (Λ' := []) rfl rfl rfl (List.nil_sublist _) ⟨?_, rfl⟩; exact .refl
theorem wdiff_p (a b : Int) : Pure Try.prog gs0 62 [AI32 a, AI32 b] (AI32 (w32 (a - b))) := by
  refine Pure.of (S := tt) (fn := Try.f62) (n := 8) tt_ok Try.func62 rfl rfl rfl rfl fun w0 h0 F hgs => ?_
  (repeat first|refine A.s rfl ?_|refine A.r rfl rfl ?_|refine A.w rfl rfl ?_|refine A.p rfl ?_|refine A.b rfl fun bx=>?_|refine A.t rfl fun bl=>?_|refine A.step rfl ?_|refine A.v rfl rfl ?_); refine A.ret1 (Λ' := []) rfl rfl rfl (List.nil_sublist _) ⟨?_, rfl⟩; exact .refl
theorem wprod_p (a b : Int) : Pure Try.prog gs0 63 [AI32 a, AI32 b] (AI32 (w32 (a * b))) := by
  refine Pure.of (S := tt) (fn := Try.f63) (n := 8) tt_ok Try.func63 rfl rfl rfl rfl fun w0 h0 F hgs => ?_
  (repeat first|refine A.s rfl ?_|refine A.r rfl rfl ?_|refine A.w rfl rfl ?_|refine A.p rfl ?_|refine A.b rfl fun bx=>?_|refine A.t rfl fun bl=>?_|refine A.step rfl ?_|refine A.v rfl rfl ?_); refine A.ret1 (Λ' := []) rfl rfl rfl (List.nil_sublist _) ⟨?_, rfl⟩; exact .refl
def uns (a : Int) : Int := if a < 0 then a + 4294967296 else a
theorem wu32_uns {a : Int} (ha : i32 a) : IntKind.u32.wrap a = uns a := by unfold i32 at ha; unfold uns; rw [wu32_eq]; split <;> omega
theorem uns_in {a : Int} (ha : i32 a) : 0 ≤ uns a ∧ uns a < 4294967296 := by unfold i32 at ha; unfold uns; split <;> omega
def shlM (a n : Int) : Int := if uns n > 31 then 0 else w32 (a * 2 ^ n.toNat)
def shrM (a n : Int) : Int := if uns n > 31 then 0 else w32 (uns a / 2 ^ n.toNat)
theorem reduceU_p (t : Int) : Pure Try.prog gs0 81 [.v (.int .u64 t)] (.tp [AI32 (w32 t), AB (IntKind.u64.wrap (w32 t) != t)]) := by
  refine Pure.of (S := tt) (fn := Try.f81) (n := 11) tt_ok Try.func81 rfl rfl rfl rfl fun w0 h0 F hgs => ?_
  (repeat first|refine A.s rfl ?_|refine A.r rfl rfl ?_|refine A.w rfl rfl ?_|refine A.p rfl ?_|refine A.b rfl fun bx=>?_|refine A.t rfl fun bl=>?_|refine A.step rfl ?_|refine A.v rfl rfl ?_); refine A.ret2 (Λ' := []) rfl rfl rfl rfl (List.nil_sublist _) ⟨?_, rfl⟩
  exact .refl
theorem uns_small {n : Int} (hn : i32 n) (h : ¬ uns n > 31) : 0 ≤ n ∧ n ≤ 31 ∧ uns n = n := by unfold i32 at hn; unfold uns at h ⊢; split at h <;> split <;> omega
theorem pow32 {k : Nat} (h : k ≤ 32) : (2 : Int) ^ k ≤ 4294967296 := by
  have : (2 : Nat) ^ k ≤ 2 ^ 32 := Nat.pow_le_pow_right (by decide) h
  have h2 : ((2 ^ k : Nat) : Int) ≤ ((2 ^ 32 : Nat) : Int) := Int.ofNat_le.2 this
  rwa [Int.natCast_pow] at h2
theorem wshl_p (a n : Int) (ha : i32 a) (hn : i32 n) : Pure Try.prog gs0 67 [AI32 a, AI32 n] (AI32 (shlM a n)) := by
  refine Pure.of (S := tt) (fn := Try.f67) (n := 21) tt_ok Try.func67 rfl rfl rfl rfl fun w0 h0 F hgs => ?_
  (repeat first|refine A.s rfl ?_|refine A.r rfl rfl ?_|refine A.w rfl rfl ?_|refine A.p rfl ?_|refine A.b rfl fun bx=>?_|refine A.t rfl fun bl=>?_|refine A.step rfl ?_|refine A.v rfl rfl ?_)
  refine A.cond rfl (fun hc => ?_) (fun hc => ?_)
  · simp at hc; rw [wu32_uns hn] at hc
    (repeat first|refine A.s rfl ?_|refine A.r rfl rfl ?_|refine A.w rfl rfl ?_|refine A.p rfl ?_|refine A.b rfl fun bx=>?_|refine A.t rfl fun bl=>?_|refine A.step rfl ?_|refine A.v rfl rfl ?_); refine A.ret1 (Λ' := []) rfl rfl rfl (List.nil_sublist _) ⟨?_, rfl⟩; refine Sb.eq ?_; simp [shlM, hc]
  · simp at hc; rw [wu32_uns hn] at hc
    obtain ⟨h1, h2, h3⟩ := uns_small hn (by omega)
    (repeat first|refine A.s rfl ?_|refine A.r rfl rfl ?_|refine A.w rfl rfl ?_|refine A.p rfl ?_|refine A.b rfl fun bx=>?_|refine A.t rfl fun bl=>?_|refine A.step rfl ?_|refine A.v rfl rfl ?_)
    refine A.shift rfl rfl rfl rfl rfl rfl (by rw [wu32_uns hn]; omega) ?_
    (repeat first|refine A.s rfl ?_|refine A.r rfl rfl ?_|refine A.w rfl rfl ?_|refine A.p rfl ?_|refine A.b rfl fun bx=>?_|refine A.t rfl fun bl=>?_|refine A.step rfl ?_|refine A.v rfl rfl ?_)
    refine A.c rfl (reduceU_p _) .refl ?_
    (repeat first|refine A.s rfl ?_|refine A.r rfl rfl ?_|refine A.w rfl rfl ?_|refine A.p rfl ?_|refine A.b rfl fun bx=>?_|refine A.t rfl fun bl=>?_|refine A.step rfl ?_|refine A.v rfl rfl ?_); refine A.ret1 (Λ' := []) rfl rfl rfl (List.nil_sublist _) ⟨?_, rfl⟩; refine Sb.eq ?_
    refine ai32_eq ?_
    have hu := uns_in ha
    simp only [arV, shlM, wu32_uns hn, wu32_uns ha, h3, if_neg (show ¬ n > 31 by omega)]
    have h4 : min n.toNat IntKind.u64.bits = n.toNat := Nat.min_eq_left (by simp [IntKind.bits]; omega)
    rw [h4]
    have hp := pow32 (k := n.toNat) (by omega)
    have hp0 : (0 : Int) < 2 ^ n.toNat := Int.pow_pos (by decide)
    have e1 : IntKind.u64.wrap (uns a) = uns a := by rw [wu64_eq]; omega
    have hb : uns a * 2 ^ n.toNat < 18446744073709551616 := by
      calc uns a * 2 ^ n.toNat < 4294967296 * 2 ^ n.toNat := Int.mul_lt_mul_of_pos_right hu.2 hp0
        _ ≤ 4294967296 * 4294967296 := Int.mul_le_mul_of_nonneg_left hp (by decide)
    have hb0 : 0 ≤ uns a * 2 ^ n.toNat := Int.mul_nonneg hu.1 (Int.le_of_lt hp0)
    have e2 : IntKind.u64.wrap (uns a * 2 ^ n.toNat) = uns a * 2 ^ n.toNat := by rw [wu64_eq]; omega
    rw [e1, e2]
    unfold uns
    split
    · unfold w32; rw [w32_eq, w32_eq, Int.add_mul]
      generalize a * 2 ^ n.toNat = x
      generalize (2 : Int) ^ n.toNat = y
      omega
    · rfl
theorem wshr_p (a n : Int) (ha : i32 a) (hn : i32 n) : Pure Try.prog gs0 68 [AI32 a, AI32 n] (AI32 (shrM a n)) := by
  refine Pure.of (S := tt) (fn := Try.f68) (n := 11) tt_ok Try.func68 rfl rfl rfl rfl fun w0 h0 F hgs => ?_
  (repeat first|refine A.s rfl ?_|refine A.r rfl rfl ?_|refine A.w rfl rfl ?_|refine A.p rfl ?_|refine A.b rfl fun bx=>?_|refine A.t rfl fun bl=>?_|refine A.step rfl ?_|refine A.v rfl rfl ?_)
  have hun := uns_in hn
  have hua := uns_in ha
  refine A.shift rfl rfl rfl rfl rfl rfl (by rw [wu32_uns hn]; omega) ?_
  (repeat first|refine A.s rfl ?_|refine A.r rfl rfl ?_|refine A.w rfl rfl ?_|refine A.p rfl ?_|refine A.b rfl fun bx=>?_|refine A.t rfl fun bl=>?_|refine A.step rfl ?_|refine A.v rfl rfl ?_); refine A.ret1 (Λ' := []) rfl rfl rfl (List.nil_sublist _) ⟨?_, rfl⟩; refine Sb.eq ?_
  refine ai32_eq ?_
  simp only [arV, wu32_uns hn, wu32_uns ha, shrM]
  split
  · rename_i h
    have h4 : min (uns n).toNat IntKind.u32.bits = 32 := Nat.min_eq_right (by simp [IntKind.bits]; omega)
    rw [h4, Int.fdiv_eq_ediv_of_nonneg _ (by decide)]
    have : uns a / 2 ^ 32 = 0 := by
      rw [show (2 : Int) ^ 32 = 4294967296 by decide]; omega
    rw [this]; decide
  · rename_i h
    obtain ⟨h1, h2, h3⟩ := uns_small hn h
    have h4 : min (uns n).toNat IntKind.u32.bits = n.toNat := by rw [h3]; exact Nat.min_eq_left (by simp [IntKind.bits]; omega)
    rw [h4, Int.fdiv_eq_ediv_of_nonneg _ (Int.le_of_lt (Int.pow_pos (by decide)))]; rfl
theorem wafter_p (a b : Int) : Pure Try.prog gs0 88 [AI32 a, AI32 b] (AB (decide (0 < w32 (a - b)))) := by
  refine Pure.of (S := tt) (fn := Try.f88) (n := 9) tt_ok Try.func88 rfl rfl rfl rfl fun w0 h0 F hgs => ?_
  (repeat first|refine A.s rfl ?_|refine A.r rfl rfl ?_|refine A.w rfl rfl ?_|refine A.p rfl ?_|refine A.b rfl fun bx=>?_|refine A.t rfl fun bl=>?_|refine A.step rfl ?_|refine A.v rfl rfl ?_); refine A.ret1 (Λ' := []) rfl rfl rfl (List.nil_sublist _) ⟨?_, rfl⟩; exact .refl

/-! ### the operators of fold that have no name -/
def band (a b : Int) : Int := bitsOf .and .i32 a b
def bor (a b : Int) : Int := bitsOf .or .i32 a b
def bxor (a b : Int) : Int := bitsOf .xor .i32 a b
def bnot (a : Int) : Int := bitsOf .xor .i32 (-1) a
theorem t1_p (a b : Int) : Pure Try.prog gs0 64 [AI32 a, AI32 b] (AI32 (band a b)) := by
  refine Pure.of (S := tt) (fn := Try.f64) (n := 8) tt_ok Try.func64 rfl rfl rfl rfl fun w0 h0 F hgs => ?_
  (repeat first|refine A.s rfl ?_|refine A.r rfl rfl ?_|refine A.w rfl rfl ?_|refine A.p rfl ?_|refine A.b rfl fun bx=>?_|refine A.t rfl fun bl=>?_|refine A.step rfl ?_|refine A.v rfl rfl ?_); refine A.ret1 (Λ' := []) rfl rfl rfl (List.nil_sublist _) ⟨?_, rfl⟩; exact .refl
theorem t2_p (a b : Int) : Pure Try.prog gs0 65 [AI32 a, AI32 b] (AI32 (bor a b)) := by
  refine Pure.of (S := tt) (fn := Try.f65) (n := 8) tt_ok Try.func65 rfl rfl rfl rfl fun w0 h0 F hgs => ?_
  (repeat first|refine A.s rfl ?_|refine A.r rfl rfl ?_|refine A.w rfl rfl ?_|refine A.p rfl ?_|refine A.b rfl fun bx=>?_|refine A.t rfl fun bl=>?_|refine A.step rfl ?_|refine A.v rfl rfl ?_); refine A.ret1 (Λ' := []) rfl rfl rfl (List.nil_sublist _) ⟨?_, rfl⟩; exact .refl
theorem t3_p (a b : Int) : Pure Try.prog gs0 66 [AI32 a, AI32 b] (AI32 (bxor a b)) := by
  refine Pure.of (S := tt) (fn := Try.f66) (n := 8) tt_ok Try.func66 rfl rfl rfl rfl fun w0 h0 F hgs => ?_
  (repeat first|refine A.s rfl ?_|refine A.r rfl rfl ?_|refine A.w rfl rfl ?_|refine A.p rfl ?_|refine A.b rfl fun bx=>?_|refine A.t rfl fun bl=>?_|refine A.step rfl ?_|refine A.v rfl rfl ?_); refine A.ret1 (Λ' := []) rfl rfl rfl (List.nil_sublist _) ⟨?_, rfl⟩; exact .refl
theorem t4_p (a b : Int) : Pure Try.prog gs0 69 [AI32 a, AI32 b] (AI32 (w32 (0 - a))) := by
  refine Pure.of (S := tt) (fn := Try.f69) (n := 7) tt_ok Try.func69 rfl rfl rfl rfl fun w0 h0 F hgs => ?_
  (repeat first|refine A.s rfl ?_|refine A.r rfl rfl ?_|refine A.w rfl rfl ?_|refine A.p rfl ?_|refine A.b rfl fun bx=>?_|refine A.t rfl fun bl=>?_|refine A.step rfl ?_|refine A.v rfl rfl ?_); refine A.ret1 (Λ' := []) rfl rfl rfl (List.nil_sublist _) ⟨?_, rfl⟩; exact .refl
theorem t5_p (a b : Int) : Pure Try.prog gs0 70 [AI32 a, AI32 b] (AI32 (bnot a)) := by
  refine Pure.of (S := tt) (fn := Try.f70) (n := 7) tt_ok Try.func70 rfl rfl rfl rfl fun w0 h0 F hgs => ?_
  (repeat first|refine A.s rfl ?_|refine A.r rfl rfl ?_|refine A.w rfl rfl ?_|refine A.p rfl ?_|refine A.b rfl fun bx=>?_|refine A.t rfl fun bl=>?_|refine A.step rfl ?_|refine A.v rfl rfl ?_); refine A.ret1 (Λ' := []) rfl rfl rfl (List.nil_sublist _) ⟨?_, rfl⟩; exact .refl
theorem te1_p (a b : Int) : Pure Try.prog gs0 82 [AI32 a, AI32 b] (AB (a == b)) := by
  refine Pure.of (S := tt) (fn := Try.f82) (n := 8) tt_ok Try.func82 rfl rfl rfl rfl fun w0 h0 F hgs => ?_
  (repeat first|refine A.s rfl ?_|refine A.r rfl rfl ?_|refine A.w rfl rfl ?_|refine A.p rfl ?_|refine A.b rfl fun bx=>?_|refine A.t rfl fun bl=>?_|refine A.step rfl ?_|refine A.v rfl rfl ?_); refine A.ret1 (Λ' := []) rfl rfl rfl (List.nil_sublist _) ⟨?_, rfl⟩; exact .refl
theorem te2_p (a b : Int) : Pure Try.prog gs0 83 [AI32 a, AI32 b] (AB (a != b)) := by
  refine Pure.of (S := tt) (fn := Try.f83) (n := 8) tt_ok Try.func83 rfl rfl rfl rfl fun w0 h0 F hgs => ?_
  (repeat first|refine A.s rfl ?_|refine A.r rfl rfl ?_|refine A.w rfl rfl ?_|refine A.p rfl ?_|refine A.b rfl fun bx=>?_|refine A.t rfl fun bl=>?_|refine A.step rfl ?_|refine A.v rfl rfl ?_); refine A.ret1 (Λ' := []) rfl rfl rfl (List.nil_sublist _) ⟨?_, rfl⟩; exact .refl
theorem te3_p (a b : Int) : Pure Try.prog gs0 84 [AI32 a, AI32 b] (AB (decide (a < b))) := by
  refine Pure.of (S := tt) (fn := Try.f84) (n := 8) tt_ok Try.func84 rfl rfl rfl rfl fun w0 h0 F hgs => ?_
  (repeat first|refine A.s rfl ?_|refine A.r rfl rfl ?_|refine A.w rfl rfl ?_|refine A.p rfl ?_|refine A.b rfl fun bx=>?_|refine A.t rfl fun bl=>?_|refine A.step rfl ?_|refine A.v rfl rfl ?_); refine A.ret1 (Λ' := []) rfl rfl rfl (List.nil_sublist _) ⟨?_, rfl⟩; exact .refl
theorem te4_p (a b : Int) : Pure Try.prog gs0 85 [AI32 a, AI32 b] (AB (decide (b < a))) := by
  refine Pure.of (S := tt) (fn := Try.f85) (n := 8) tt_ok Try.func85 rfl rfl rfl rfl fun w0 h0 F hgs => ?_
  (repeat first|refine A.s rfl ?_|refine A.r rfl rfl ?_|refine A.w rfl rfl ?_|refine A.p rfl ?_|refine A.b rfl fun bx=>?_|refine A.t rfl fun bl=>?_|refine A.step rfl ?_|refine A.v rfl rfl ?_); refine A.ret1 (Λ' := []) rfl rfl rfl (List.nil_sublist _) ⟨?_, rfl⟩; exact .refl
theorem te5_p (a b : Int) : Pure Try.prog gs0 86 [AI32 a, AI32 b] (AB (decide (a ≤ b))) := by
  refine Pure.of (S := tt) (fn := Try.f86) (n := 8) tt_ok Try.func86 rfl rfl rfl rfl fun w0 h0 F hgs => ?_
  (repeat first|refine A.s rfl ?_|refine A.r rfl rfl ?_|refine A.w rfl rfl ?_|refine A.p rfl ?_|refine A.b rfl fun bx=>?_|refine A.t rfl fun bl=>?_|refine A.step rfl ?_|refine A.v rfl rfl ?_); refine A.ret1 (Λ' := []) rfl rfl rfl (List.nil_sublist _) ⟨?_, rfl⟩; exact .refl
theorem te6_p (a b : Int) : Pure Try.prog gs0 87 [AI32 a, AI32 b] (AB (decide (b ≤ a))) := by
  refine Pure.of (S := tt) (fn := Try.f87) (n := 8) tt_ok Try.func87 rfl rfl rfl rfl fun w0 h0 F hgs => ?_
  (repeat first|refine A.s rfl ?_|refine A.r rfl rfl ?_|refine A.w rfl rfl ?_|refine A.p rfl ?_|refine A.b rfl fun bx=>?_|refine A.t rfl fun bl=>?_|refine A.step rfl ?_|refine A.v rfl rfl ?_); refine A.ret1 (Λ' := []) rfl rfl rfl (List.nil_sublist _) ⟨?_, rfl⟩; exact .refl
def truthI (b : Bool) : Int := if b then 1 else 0
theorem truth_p (b : Bool) : Pure Try.prog gs0 73 [AB b] (AI32 (truthI b)) := by
  refine Pure.of (S := tt) (fn := Try.f73) (n := 4) tt_ok Try.func73 rfl rfl rfl rfl fun w0 h0 F hgs => ?_
  (repeat first|refine A.s rfl ?_|refine A.r rfl rfl ?_|refine A.w rfl rfl ?_|refine A.p rfl ?_|refine A.b rfl fun bx=>?_|refine A.t rfl fun bl=>?_|refine A.step rfl ?_|refine A.v rfl rfl ?_)
  refine A.cond rfl (fun hc => ?_) (fun hc => ?_)
  · (repeat first|refine A.s rfl ?_|refine A.r rfl rfl ?_|refine A.w rfl rfl ?_|refine A.p rfl ?_|refine A.b rfl fun bx=>?_|refine A.t rfl fun bl=>?_|refine A.step rfl ?_|refine A.v rfl rfl ?_); refine A.ret1 (Λ' := []) rfl rfl rfl (List.nil_sublist _) ⟨?_, rfl⟩; subst hc; exact .refl
  · (repeat first|refine A.s rfl ?_|refine A.r rfl rfl ?_|refine A.w rfl rfl ?_|refine A.p rfl ?_|refine A.b rfl fun bx=>?_|refine A.t rfl fun bl=>?_|refine A.step rfl ?_|refine A.v rfl rfl ?_); refine A.ret1 (Λ' := []) rfl rfl rfl (List.nil_sublist _) ⟨?_, rfl⟩; subst hc; exact .refl
/-- a relation, as a function of numbers -/
theorem t6_p (f : FuncId) (a b : Int) (r : Bool) (hf : Pure Try.prog gs0 f [AI32 a, AI32 b] (AB r)) : Pure Try.prog gs0 72 [AI32 a, AI32 b, .pe 1 (.fn f [] [])] (AI32 (truthI r)) := by
  refine Pure.of (S := tt) (fn := Try.f72) (n := 11) tt_ok Try.func72 rfl rfl rfl rfl fun w0 h0 F hgs => ?_
  (repeat first|refine A.s rfl ?_|refine A.r rfl rfl ?_|refine A.w rfl rfl ?_|refine A.p rfl ?_|refine A.b rfl fun bx=>?_|refine A.t rfl fun bl=>?_|refine A.step rfl ?_|refine A.v rfl rfl ?_)
  refine A.c rfl hf .refl ?_
  refine A.c rfl (truth_p _) .refl ?_
  (repeat first|refine A.s rfl ?_|refine A.r rfl rfl ?_|refine A.w rfl rfl ?_|refine A.p rfl ?_|refine A.b rfl fun bx=>?_|refine A.t rfl fun bl=>?_|refine A.step rfl ?_|refine A.v rfl rfl ?_); refine A.ret1 (Λ' := []) rfl rfl rfl (List.nil_sublist _) ⟨?_, rfl⟩; exact .refl
def testsF (o : Int) : AV :=
  if o = 14 then .fn 82 [] [] else if o = 15 then .fn 83 [] [] else if o = 16 then .fn 84 [] [] else if o = 17 then .fn 85 [] []
  else if o = 18 then .fn 86 [] [] else if o = 19 then .fn 87 [] [] else if o = 22 then .fn 88 [] [] else .v .nilFunc
theorem tests_p (o : Int) : Pure Try.prog gs0 71 [AU8 o] (testsF o) := by
  refine Pure.of (S := tt) (fn := Try.f71) (n := 18) tt_ok Try.func71 rfl rfl rfl rfl fun w0 h0 F hgs => ?_
  (repeat first|refine A.s rfl ?_|refine A.r rfl rfl ?_|refine A.w rfl rfl ?_|refine A.p rfl ?_|refine A.b rfl fun bx=>?_|refine A.t rfl fun bl=>?_|refine A.step rfl ?_|refine A.v rfl rfl ?_)
  refine A.cond rfl (fun h1 => ?_) (fun h1 => ?_); (· ((repeat first|refine A.s rfl ?_|refine A.r rfl rfl ?_|refine A.w rfl rfl ?_|refine A.p rfl ?_|refine A.b rfl fun bx=>?_|refine A.t rfl fun bl=>?_|refine A.step rfl ?_|refine A.v rfl rfl ?_); refine A.ret1 (Λ' := []) rfl rfl rfl (List.nil_sublist _) ⟨?_, rfl⟩; refine Sb.eq ?_; simp at *; simp [testsF, *]))
  (repeat first|refine A.s rfl ?_|refine A.r rfl rfl ?_|refine A.w rfl rfl ?_|refine A.p rfl ?_|refine A.b rfl fun bx=>?_|refine A.t rfl fun bl=>?_|refine A.step rfl ?_|refine A.v rfl rfl ?_); refine A.cond rfl (fun h2 => ?_) (fun h2 => ?_); (· ((repeat first|refine A.s rfl ?_|refine A.r rfl rfl ?_|refine A.w rfl rfl ?_|refine A.p rfl ?_|refine A.b rfl fun bx=>?_|refine A.t rfl fun bl=>?_|refine A.step rfl ?_|refine A.v rfl rfl ?_); refine A.ret1 (Λ' := []) rfl rfl rfl (List.nil_sublist _) ⟨?_, rfl⟩; refine Sb.eq ?_; simp at *; simp [testsF, *]))
  (repeat first|refine A.s rfl ?_|refine A.r rfl rfl ?_|refine A.w rfl rfl ?_|refine A.p rfl ?_|refine A.b rfl fun bx=>?_|refine A.t rfl fun bl=>?_|refine A.step rfl ?_|refine A.v rfl rfl ?_); refine A.cond rfl (fun h3 => ?_) (fun h3 => ?_); (· ((repeat first|refine A.s rfl ?_|refine A.r rfl rfl ?_|refine A.w rfl rfl ?_|refine A.p rfl ?_|refine A.b rfl fun bx=>?_|refine A.t rfl fun bl=>?_|refine A.step rfl ?_|refine A.v rfl rfl ?_); refine A.ret1 (Λ' := []) rfl rfl rfl (List.nil_sublist _) ⟨?_, rfl⟩; refine Sb.eq ?_; simp at *; simp [testsF, *]))
  (repeat first|refine A.s rfl ?_|refine A.r rfl rfl ?_|refine A.w rfl rfl ?_|refine A.p rfl ?_|refine A.b rfl fun bx=>?_|refine A.t rfl fun bl=>?_|refine A.step rfl ?_|refine A.v rfl rfl ?_); refine A.cond rfl (fun h4 => ?_) (fun h4 => ?_); (· ((repeat first|refine A.s rfl ?_|refine A.r rfl rfl ?_|refine A.w rfl rfl ?_|refine A.p rfl ?_|refine A.b rfl fun bx=>?_|refine A.t rfl fun bl=>?_|refine A.step rfl ?_|refine A.v rfl rfl ?_); refine A.ret1 (Λ' := []) rfl rfl rfl (List.nil_sublist _) ⟨?_, rfl⟩; refine Sb.eq ?_; simp at *; simp [testsF, *]))
  (repeat first|refine A.s rfl ?_|refine A.r rfl rfl ?_|refine A.w rfl rfl ?_|refine A.p rfl ?_|refine A.b rfl fun bx=>?_|refine A.t rfl fun bl=>?_|refine A.step rfl ?_|refine A.v rfl rfl ?_); refine A.cond rfl (fun h5 => ?_) (fun h5 => ?_); (· ((repeat first|refine A.s rfl ?_|refine A.r rfl rfl ?_|refine A.w rfl rfl ?_|refine A.p rfl ?_|refine A.b rfl fun bx=>?_|refine A.t rfl fun bl=>?_|refine A.step rfl ?_|refine A.v rfl rfl ?_); refine A.ret1 (Λ' := []) rfl rfl rfl (List.nil_sublist _) ⟨?_, rfl⟩; refine Sb.eq ?_; simp at *; simp [testsF, *]))
  (repeat first|refine A.s rfl ?_|refine A.r rfl rfl ?_|refine A.w rfl rfl ?_|refine A.p rfl ?_|refine A.b rfl fun bx=>?_|refine A.t rfl fun bl=>?_|refine A.step rfl ?_|refine A.v rfl rfl ?_); refine A.cond rfl (fun h6 => ?_) (fun h6 => ?_); (· ((repeat first|refine A.s rfl ?_|refine A.r rfl rfl ?_|refine A.w rfl rfl ?_|refine A.p rfl ?_|refine A.b rfl fun bx=>?_|refine A.t rfl fun bl=>?_|refine A.step rfl ?_|refine A.v rfl rfl ?_); refine A.ret1 (Λ' := []) rfl rfl rfl (List.nil_sublist _) ⟨?_, rfl⟩; refine Sb.eq ?_; simp at *; simp [testsF, *]))
  (repeat first|refine A.s rfl ?_|refine A.r rfl rfl ?_|refine A.w rfl rfl ?_|refine A.p rfl ?_|refine A.b rfl fun bx=>?_|refine A.t rfl fun bl=>?_|refine A.step rfl ?_|refine A.v rfl rfl ?_); refine A.cond rfl (fun h7 => ?_) (fun h7 => ?_); (· ((repeat first|refine A.s rfl ?_|refine A.r rfl rfl ?_|refine A.w rfl rfl ?_|refine A.p rfl ?_|refine A.b rfl fun bx=>?_|refine A.t rfl fun bl=>?_|refine A.step rfl ?_|refine A.v rfl rfl ?_); refine A.ret1 (Λ' := []) rfl rfl rfl (List.nil_sublist _) ⟨?_, rfl⟩; refine Sb.eq ?_; simp at *; simp [testsF, *]))
  (· ((repeat first|refine A.s rfl ?_|refine A.r rfl rfl ?_|refine A.w rfl rfl ?_|refine A.p rfl ?_|refine A.b rfl fun bx=>?_|refine A.t rfl fun bl=>?_|refine A.step rfl ?_|refine A.v rfl rfl ?_); refine A.ret1 (Λ' := []) rfl rfl rfl (List.nil_sublist _) ⟨?_, rfl⟩; refine Sb.eq ?_; simp at *; simp [testsF, *]))
def totalF (o : Int) : AV :=
  if o = 6 then .fn 61 [] [] else if o = 7 then .fn 62 [] [] else if o = 8 then .fn 63 [] [] else if o = 9 then .fn 64 [] []
  else if o = 10 then .fn 65 [] [] else if o = 11 then .fn 66 [] [] else if o = 12 then .fn 67 [] [] else if o = 13 then .fn 68 [] []
  else if o = 24 then .fn 69 [] [] else if o = 25 then .fn 70 [] [] else match testsF o with
    | .fn f a b => .fn 72 [] [.pe 1 (.fn f a b)]
    | _ => .v .nilFunc
theorem testsF_cases (o : Int) : (∃ f, testsF o = .fn f [] [] ∧ (o = 14 ∨ o = 15 ∨ o = 16 ∨ o = 17 ∨ o = 18 ∨ o = 19 ∨ o = 22)) ∨ (testsF o = .v .nilFunc ∧ o ≠ 14 ∧ o ≠ 15 ∧ o ≠ 16 ∧ o ≠ 17 ∧ o ≠ 18 ∧ o ≠ 19 ∧ o ≠ 22) := by
  unfold testsF
  (repeat' split) <;> first | exact .inl ⟨_, rfl, by omega⟩ | exact .inr ⟨rfl, by omega⟩
theorem total_p (o : Int) : Pure Try.prog gs0 50 [AU8 o] (totalF o) := by
  rcases testsF_cases o with ⟨f, hf, ho⟩ | ⟨hf, ho⟩
  · have e : totalF o = .fn 72 [] [.pe 1 (.fn f [] [])] := by
      unfold totalF; rw [hf]; repeat rw [if_neg (by omega)]
    refine Pure.of (S := tt) (fn := Try.f50) (n := 30) tt_ok Try.func50 rfl rfl rfl rfl fun w0 h0 F hgs => ?_
    (repeat first|refine A.s rfl ?_|refine A.r rfl rfl ?_|refine A.w rfl rfl ?_|refine A.p rfl ?_|refine A.b rfl fun bx=>?_|refine A.t rfl fun bl=>?_|refine A.step rfl ?_|refine A.v rfl rfl ?_)
    refine A.cond rfl (fun h1 => ?_) (fun h1 => ?_); (· ((repeat first|refine A.s rfl ?_|refine A.r rfl rfl ?_|refine A.w rfl rfl ?_|refine A.p rfl ?_|refine A.b rfl fun bx=>?_|refine A.t rfl fun bl=>?_|refine A.step rfl ?_|refine A.v rfl rfl ?_); refine A.ret1 (Λ' := []) rfl rfl rfl (List.nil_sublist _) ⟨?_, rfl⟩; refine Sb.eq ?_; simp at *; simp [totalF, *]))
    (repeat first|refine A.s rfl ?_|refine A.r rfl rfl ?_|refine A.w rfl rfl ?_|refine A.p rfl ?_|refine A.b rfl fun bx=>?_|refine A.t rfl fun bl=>?_|refine A.step rfl ?_|refine A.v rfl rfl ?_); refine A.cond rfl (fun h2 => ?_) (fun h2 => ?_); (· ((repeat first|refine A.s rfl ?_|refine A.r rfl rfl ?_|refine A.w rfl rfl ?_|refine A.p rfl ?_|refine A.b rfl fun bx=>?_|refine A.t rfl fun bl=>?_|refine A.step rfl ?_|refine A.v rfl rfl ?_); refine A.ret1 (Λ' := []) rfl rfl rfl (List.nil_sublist _) ⟨?_, rfl⟩; refine Sb.eq ?_; simp at *; simp [totalF, *]))
    (repeat first|refine A.s rfl ?_|refine A.r rfl rfl ?_|refine A.w rfl rfl ?_|refine A.p rfl ?_|refine A.b rfl fun bx=>?_|refine A.t rfl fun bl=>?_|refine A.step rfl ?_|refine A.v rfl rfl ?_); refine A.cond rfl (fun h3 => ?_) (fun h3 => ?_); (· ((repeat first|refine A.s rfl ?_|refine A.r rfl rfl ?_|refine A.w rfl rfl ?_|refine A.p rfl ?_|refine A.b rfl fun bx=>?_|refine A.t rfl fun bl=>?_|refine A.step rfl ?_|refine A.v rfl rfl ?_); refine A.ret1 (Λ' := []) rfl rfl rfl (List.nil_sublist _) ⟨?_, rfl⟩; refine Sb.eq ?_; simp at *; simp [totalF, *]))
    (repeat first|refine A.s rfl ?_|refine A.r rfl rfl ?_|refine A.w rfl rfl ?_|refine A.p rfl ?_|refine A.b rfl fun bx=>?_|refine A.t rfl fun bl=>?_|refine A.step rfl ?_|refine A.v rfl rfl ?_); refine A.cond rfl (fun h4 => ?_) (fun h4 => ?_); (· ((repeat first|refine A.s rfl ?_|refine A.r rfl rfl ?_|refine A.w rfl rfl ?_|refine A.p rfl ?_|refine A.b rfl fun bx=>?_|refine A.t rfl fun bl=>?_|refine A.step rfl ?_|refine A.v rfl rfl ?_); refine A.ret1 (Λ' := []) rfl rfl rfl (List.nil_sublist _) ⟨?_, rfl⟩; refine Sb.eq ?_; simp at *; simp [totalF, *]))
    (repeat first|refine A.s rfl ?_|refine A.r rfl rfl ?_|refine A.w rfl rfl ?_|refine A.p rfl ?_|refine A.b rfl fun bx=>?_|refine A.t rfl fun bl=>?_|refine A.step rfl ?_|refine A.v rfl rfl ?_); refine A.cond rfl (fun h5 => ?_) (fun h5 => ?_); (· ((repeat first|refine A.s rfl ?_|refine A.r rfl rfl ?_|refine A.w rfl rfl ?_|refine A.p rfl ?_|refine A.b rfl fun bx=>?_|refine A.t rfl fun bl=>?_|refine A.step rfl ?_|refine A.v rfl rfl ?_); refine A.ret1 (Λ' := []) rfl rfl rfl (List.nil_sublist _) ⟨?_, rfl⟩; refine Sb.eq ?_; simp at *; simp [totalF, *]))
    (repeat first|refine A.s rfl ?_|refine A.r rfl rfl ?_|refine A.w rfl rfl ?_|refine A.p rfl ?_|refine A.b rfl fun bx=>?_|refine A.t rfl fun bl=>?_|refine A.step rfl ?_|refine A.v rfl rfl ?_); refine A.cond rfl (fun h6 => ?_) (fun h6 => ?_); (· ((repeat first|refine A.s rfl ?_|refine A.r rfl rfl ?_|refine A.w rfl rfl ?_|refine A.p rfl ?_|refine A.b rfl fun bx=>?_|refine A.t rfl fun bl=>?_|refine A.step rfl ?_|refine A.v rfl rfl ?_); refine A.ret1 (Λ' := []) rfl rfl rfl (List.nil_sublist _) ⟨?_, rfl⟩; refine Sb.eq ?_; simp at *; simp [totalF, *]))
    (repeat first|refine A.s rfl ?_|refine A.r rfl rfl ?_|refine A.w rfl rfl ?_|refine A.p rfl ?_|refine A.b rfl fun bx=>?_|refine A.t rfl fun bl=>?_|refine A.step rfl ?_|refine A.v rfl rfl ?_); refine A.cond rfl (fun h7 => ?_) (fun h7 => ?_); (· ((repeat first|refine A.s rfl ?_|refine A.r rfl rfl ?_|refine A.w rfl rfl ?_|refine A.p rfl ?_|refine A.b rfl fun bx=>?_|refine A.t rfl fun bl=>?_|refine A.step rfl ?_|refine A.v rfl rfl ?_); refine A.ret1 (Λ' := []) rfl rfl rfl (List.nil_sublist _) ⟨?_, rfl⟩; refine Sb.eq ?_; simp at *; simp [totalF, *]))
    (repeat first|refine A.s rfl ?_|refine A.r rfl rfl ?_|refine A.w rfl rfl ?_|refine A.p rfl ?_|refine A.b rfl fun bx=>?_|refine A.t rfl fun bl=>?_|refine A.step rfl ?_|refine A.v rfl rfl ?_); refine A.cond rfl (fun h8 => ?_) (fun h8 => ?_); (· ((repeat first|refine A.s rfl ?_|refine A.r rfl rfl ?_|refine A.w rfl rfl ?_|refine A.p rfl ?_|refine A.b rfl fun bx=>?_|refine A.t rfl fun bl=>?_|refine A.step rfl ?_|refine A.v rfl rfl ?_); refine A.ret1 (Λ' := []) rfl rfl rfl (List.nil_sublist _) ⟨?_, rfl⟩; refine Sb.eq ?_; simp at *; simp [totalF, *]))
    (repeat first|refine A.s rfl ?_|refine A.r rfl rfl ?_|refine A.w rfl rfl ?_|refine A.p rfl ?_|refine A.b rfl fun bx=>?_|refine A.t rfl fun bl=>?_|refine A.step rfl ?_|refine A.v rfl rfl ?_); refine A.cond rfl (fun h9 => ?_) (fun h9 => ?_); (· ((repeat first|refine A.s rfl ?_|refine A.r rfl rfl ?_|refine A.w rfl rfl ?_|refine A.p rfl ?_|refine A.b rfl fun bx=>?_|refine A.t rfl fun bl=>?_|refine A.step rfl ?_|refine A.v rfl rfl ?_); refine A.ret1 (Λ' := []) rfl rfl rfl (List.nil_sublist _) ⟨?_, rfl⟩; refine Sb.eq ?_; simp at *; simp [totalF, *]))
    (repeat first|refine A.s rfl ?_|refine A.r rfl rfl ?_|refine A.w rfl rfl ?_|refine A.p rfl ?_|refine A.b rfl fun bx=>?_|refine A.t rfl fun bl=>?_|refine A.step rfl ?_|refine A.v rfl rfl ?_); refine A.cond rfl (fun ha => ?_) (fun ha => ?_); (· ((repeat first|refine A.s rfl ?_|refine A.r rfl rfl ?_|refine A.w rfl rfl ?_|refine A.p rfl ?_|refine A.b rfl fun bx=>?_|refine A.t rfl fun bl=>?_|refine A.step rfl ?_|refine A.v rfl rfl ?_); refine A.ret1 (Λ' := []) rfl rfl rfl (List.nil_sublist _) ⟨?_, rfl⟩; refine Sb.eq ?_; simp at *; simp [totalF, *]))
    (repeat first|refine A.s rfl ?_|refine A.r rfl rfl ?_|refine A.w rfl rfl ?_|refine A.p rfl ?_|refine A.b rfl fun bx=>?_|refine A.t rfl fun bl=>?_|refine A.step rfl ?_|refine A.v rfl rfl ?_)
    refine A.c rfl (hf ▸ tests_p o) .refl ?_
    refine A.alloc rfl rfl rfl rfl rfl rfl fun bx => ?_
    refine A.store rfl rfl rfl rfl rfl rfl rfl ?_
    refine A.freeze 3 rfl rfl rfl ?_
    (repeat first|refine A.s rfl ?_|refine A.r rfl rfl ?_|refine A.w rfl rfl ?_|refine A.p rfl ?_|refine A.b rfl fun bx=>?_|refine A.t rfl fun bl=>?_|refine A.step rfl ?_|refine A.v rfl rfl ?_); refine A.ret1 (Λ' := []) rfl rfl rfl (List.nil_sublist _) ⟨?_, rfl⟩; rw [e]; exact .refl
  · refine Pure.of (S := tt) (fn := Try.f50) (n := 30) tt_ok Try.func50 rfl rfl rfl rfl fun w0 h0 F hgs => ?_
    (repeat first|refine A.s rfl ?_|refine A.r rfl rfl ?_|refine A.w rfl rfl ?_|refine A.p rfl ?_|refine A.b rfl fun bx=>?_|refine A.t rfl fun bl=>?_|refine A.step rfl ?_|refine A.v rfl rfl ?_)
    refine A.cond rfl (fun h1 => ?_) (fun h1 => ?_); (· ((repeat first|refine A.s rfl ?_|refine A.r rfl rfl ?_|refine A.w rfl rfl ?_|refine A.p rfl ?_|refine A.b rfl fun bx=>?_|refine A.t rfl fun bl=>?_|refine A.step rfl ?_|refine A.v rfl rfl ?_); refine A.ret1 (Λ' := []) rfl rfl rfl (List.nil_sublist _) ⟨?_, rfl⟩; refine Sb.eq ?_; simp at *; simp [totalF, *]))
    (repeat first|refine A.s rfl ?_|refine A.r rfl rfl ?_|refine A.w rfl rfl ?_|refine A.p rfl ?_|refine A.b rfl fun bx=>?_|refine A.t rfl fun bl=>?_|refine A.step rfl ?_|refine A.v rfl rfl ?_); refine A.cond rfl (fun h2 => ?_) (fun h2 => ?_); (· ((repeat first|refine A.s rfl ?_|refine A.r rfl rfl ?_|refine A.w rfl rfl ?_|refine A.p rfl ?_|refine A.b rfl fun bx=>?_|refine A.t rfl fun bl=>?_|refine A.step rfl ?_|refine A.v rfl rfl ?_); refine A.ret1 (Λ' := []) rfl rfl rfl (List.nil_sublist _) ⟨?_, rfl⟩; refine Sb.eq ?_; simp at *; simp [totalF, *]))
    (repeat first|refine A.s rfl ?_|refine A.r rfl rfl ?_|refine A.w rfl rfl ?_|refine A.p rfl ?_|refine A.b rfl fun bx=>?_|refine A.t rfl fun bl=>?_|refine A.step rfl ?_|refine A.v rfl rfl ?_); refine A.cond rfl (fun h3 => ?_) (fun h3 => ?_); (· ((repeat first|refine A.s rfl ?_|refine A.r rfl rfl ?_|refine A.w rfl rfl ?_|refine A.p rfl ?_|refine A.b rfl fun bx=>?_|refine A.t rfl fun bl=>?_|refine A.step rfl ?_|refine A.v rfl rfl ?_); refine A.ret1 (Λ' := []) rfl rfl rfl (List.nil_sublist _) ⟨?_, rfl⟩; refine Sb.eq ?_; simp at *; simp [totalF, *]))
    (repeat first|refine A.s rfl ?_|refine A.r rfl rfl ?_|refine A.w rfl rfl ?_|refine A.p rfl ?_|refine A.b rfl fun bx=>?_|refine A.t rfl fun bl=>?_|refine A.step rfl ?_|refine A.v rfl rfl ?_); refine A.cond rfl (fun h4 => ?_) (fun h4 => ?_); (· ((repeat first|refine A.s rfl ?_|refine A.r rfl rfl ?_|refine A.w rfl rfl ?_|refine A.p rfl ?_|refine A.b rfl fun bx=>?_|refine A.t rfl fun bl=>?_|refine A.step rfl ?_|refine A.v rfl rfl ?_); refine A.ret1 (Λ' := []) rfl rfl rfl (List.nil_sublist _) ⟨?_, rfl⟩; refine Sb.eq ?_; simp at *; simp [totalF, *]))
    (repeat first|refine A.s rfl ?_|refine A.r rfl rfl ?_|refine A.w rfl rfl ?_|refine A.p rfl ?_|refine A.b rfl fun bx=>?_|refine A.t rfl fun bl=>?_|refine A.step rfl ?_|refine A.v rfl rfl ?_); refine A.cond rfl (fun h5 => ?_) (fun h5 => ?_); (· ((repeat first|refine A.s rfl ?_|refine A.r rfl rfl ?_|refine A.w rfl rfl ?_|refine A.p rfl ?_|refine A.b rfl fun bx=>?_|refine A.t rfl fun bl=>?_|refine A.step rfl ?_|refine A.v rfl rfl ?_); refine A.ret1 (Λ' := []) rfl rfl rfl (List.nil_sublist _) ⟨?_, rfl⟩; refine Sb.eq ?_; simp at *; simp [totalF, *]))
    (repeat first|refine A.s rfl ?_|refine A.r rfl rfl ?_|refine A.w rfl rfl ?_|refine A.p rfl ?_|refine A.b rfl fun bx=>?_|refine A.t rfl fun bl=>?_|refine A.step rfl ?_|refine A.v rfl rfl ?_); refine A.cond rfl (fun h6 => ?_) (fun h6 => ?_); (· ((repeat first|refine A.s rfl ?_|refine A.r rfl rfl ?_|refine A.w rfl rfl ?_|refine A.p rfl ?_|refine A.b rfl fun bx=>?_|refine A.t rfl fun bl=>?_|refine A.step rfl ?_|refine A.v rfl rfl ?_); refine A.ret1 (Λ' := []) rfl rfl rfl (List.nil_sublist _) ⟨?_, rfl⟩; refine Sb.eq ?_; simp at *; simp [totalF, *]))
    (repeat first|refine A.s rfl ?_|refine A.r rfl rfl ?_|refine A.w rfl rfl ?_|refine A.p rfl ?_|refine A.b rfl fun bx=>?_|refine A.t rfl fun bl=>?_|refine A.step rfl ?_|refine A.v rfl rfl ?_); refine A.cond rfl (fun h7 => ?_) (fun h7 => ?_); (· ((repeat first|refine A.s rfl ?_|refine A.r rfl rfl ?_|refine A.w rfl rfl ?_|refine A.p rfl ?_|refine A.b rfl fun bx=>?_|refine A.t rfl fun bl=>?_|refine A.step rfl ?_|refine A.v rfl rfl ?_); refine A.ret1 (Λ' := []) rfl rfl rfl (List.nil_sublist _) ⟨?_, rfl⟩; refine Sb.eq ?_; simp at *; simp [totalF, *]))
    (repeat first|refine A.s rfl ?_|refine A.r rfl rfl ?_|refine A.w rfl rfl ?_|refine A.p rfl ?_|refine A.b rfl fun bx=>?_|refine A.t rfl fun bl=>?_|refine A.step rfl ?_|refine A.v rfl rfl ?_); refine A.cond rfl (fun h8 => ?_) (fun h8 => ?_); (· ((repeat first|refine A.s rfl ?_|refine A.r rfl rfl ?_|refine A.w rfl rfl ?_|refine A.p rfl ?_|refine A.b rfl fun bx=>?_|refine A.t rfl fun bl=>?_|refine A.step rfl ?_|refine A.v rfl rfl ?_); refine A.ret1 (Λ' := []) rfl rfl rfl (List.nil_sublist _) ⟨?_, rfl⟩; refine Sb.eq ?_; simp at *; simp [totalF, *]))
    (repeat first|refine A.s rfl ?_|refine A.r rfl rfl ?_|refine A.w rfl rfl ?_|refine A.p rfl ?_|refine A.b rfl fun bx=>?_|refine A.t rfl fun bl=>?_|refine A.step rfl ?_|refine A.v rfl rfl ?_); refine A.cond rfl (fun h9 => ?_) (fun h9 => ?_); (· ((repeat first|refine A.s rfl ?_|refine A.r rfl rfl ?_|refine A.w rfl rfl ?_|refine A.p rfl ?_|refine A.b rfl fun bx=>?_|refine A.t rfl fun bl=>?_|refine A.step rfl ?_|refine A.v rfl rfl ?_); refine A.ret1 (Λ' := []) rfl rfl rfl (List.nil_sublist _) ⟨?_, rfl⟩; refine Sb.eq ?_; simp at *; simp [totalF, *]))
    (repeat first|refine A.s rfl ?_|refine A.r rfl rfl ?_|refine A.w rfl rfl ?_|refine A.p rfl ?_|refine A.b rfl fun bx=>?_|refine A.t rfl fun bl=>?_|refine A.step rfl ?_|refine A.v rfl rfl ?_); refine A.cond rfl (fun ha => ?_) (fun ha => ?_); (· ((repeat first|refine A.s rfl ?_|refine A.r rfl rfl ?_|refine A.w rfl rfl ?_|refine A.p rfl ?_|refine A.b rfl fun bx=>?_|refine A.t rfl fun bl=>?_|refine A.step rfl ?_|refine A.v rfl rfl ?_); refine A.ret1 (Λ' := []) rfl rfl rfl (List.nil_sublist _) ⟨?_, rfl⟩; refine Sb.eq ?_; simp at *; simp [totalF, *]))
    (repeat first|refine A.s rfl ?_|refine A.r rfl rfl ?_|refine A.w rfl rfl ?_|refine A.p rfl ?_|refine A.b rfl fun bx=>?_|refine A.t rfl fun bl=>?_|refine A.step rfl ?_|refine A.v rfl rfl ?_)
    refine A.c rfl (hf ▸ tests_p o) .refl ?_
    (repeat first|refine A.s rfl ?_|refine A.r rfl rfl ?_|refine A.w rfl rfl ?_|refine A.p rfl ?_|refine A.b rfl fun bx=>?_|refine A.t rfl fun bl=>?_|refine A.step rfl ?_|refine A.v rfl rfl ?_); refine A.ret1 (Λ' := []) rfl rfl rfl (List.nil_sublist _) ⟨?_, rfl⟩; refine Sb.eq ?_; simp at *; simp [totalF, *]
end Go.Proofs.Ytbdjbmbghfbenaa
