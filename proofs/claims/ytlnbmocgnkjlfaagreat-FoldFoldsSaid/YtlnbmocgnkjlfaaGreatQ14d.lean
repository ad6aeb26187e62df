/-
  Chapter 14: the reference's bits, its Apply and Convert.
-/
import Derived.Test.YtlnbmocgnkjlfaaGreatQ14c

namespace Go.Proofs.YtlnbmocgnkjlfaaGreat
open Go Go.Tp
set_option linter.unusedVariables false
set_option linter.unusedSimpArgs false
set_option maxRecDepth 100000
set_option maxHeartbeats 4000000

def bitM (o x y : Int) : Int := if o = 9 then x * y else if o = 10 then x + y - x * y else if o = 11 then (x + y) % 2 else 1 - x
def bit01 (x : Int) : Prop := x = 0 ∨ x = 1
theorem bitM_01 (o : Int) {x y : Int} (hx : bit01 x) (hy : bit01 y) : bit01 (bitM o x y) := by
  rcases hx with rfl | rfl <;> rcases hy with rfl | rfl <;> unfold bitM bit01 <;> (repeat' split) <;> simp
theorem bit_p (o x y : Int) (hx : bit01 x) (hy : bit01 y) : Pure Tryz.prog gs0 95 [AU8 o, AI x, AI y] (AI (bitM o x y)) := by
  rcases hx with rfl | rfl <;> rcases hy with rfl | rfl
  · refine Pure.of (S := tt) (fn := Tryz.f95) (n := 30) tt_ok Tryz.func95 rfl rfl rfl rfl fun w0 h0 F hgs => ?_
    ((repeat first|refine A.s rfl ?_|refine A.r rfl rfl ?_|refine A.w rfl rfl ?_|refine A.p rfl ?_|refine A.b rfl fun bx=>?_|refine A.t rfl fun bl=>?_|refine A.step rfl ?_|refine A.v rfl rfl ?_); refine A.cond rfl (fun h1 => ?_) (fun h1 => ?_); (· ((repeat first|refine A.s rfl ?_|refine A.r rfl rfl ?_|refine A.w rfl rfl ?_|refine A.p rfl ?_|refine A.b rfl fun bx=>?_|refine A.t rfl fun bl=>?_|refine A.step rfl ?_|refine A.v rfl rfl ?_); refine A.ret1 (Λ' := []) rfl rfl rfl (List.nil_sublist _) ⟨?_, rfl⟩; refine Sb.eq (ai_eq ?_); simp at *; simp [bitM, *]; try decide)); (repeat first|refine A.s rfl ?_|refine A.r rfl rfl ?_|refine A.w rfl rfl ?_|refine A.p rfl ?_|refine A.b rfl fun bx=>?_|refine A.t rfl fun bl=>?_|refine A.step rfl ?_|refine A.v rfl rfl ?_); refine A.cond rfl (fun h2 => ?_) (fun h2 => ?_); (· ((repeat first|refine A.s rfl ?_|refine A.r rfl rfl ?_|refine A.w rfl rfl ?_|refine A.p rfl ?_|refine A.b rfl fun bx=>?_|refine A.t rfl fun bl=>?_|refine A.step rfl ?_|refine A.v rfl rfl ?_); refine A.ret1 (Λ' := []) rfl rfl rfl (List.nil_sublist _) ⟨?_, rfl⟩; refine Sb.eq (ai_eq ?_); simp at *; simp [bitM, *]; try decide)); (repeat first|refine A.s rfl ?_|refine A.r rfl rfl ?_|refine A.w rfl rfl ?_|refine A.p rfl ?_|refine A.b rfl fun bx=>?_|refine A.t rfl fun bl=>?_|refine A.step rfl ?_|refine A.v rfl rfl ?_); refine A.cond rfl (fun h3 => ?_) (fun h3 => ?_); (· ((repeat first|refine A.s rfl ?_|refine A.r rfl rfl ?_|refine A.w rfl rfl ?_|refine A.p rfl ?_|refine A.b rfl fun bx=>?_|refine A.t rfl fun bl=>?_|refine A.step rfl ?_|refine A.v rfl rfl ?_); refine A.divrem rfl rfl rfl rfl rfl rfl rfl (by decide) ?_; ((repeat first|refine A.s rfl ?_|refine A.r rfl rfl ?_|refine A.w rfl rfl ?_|refine A.p rfl ?_|refine A.b rfl fun bx=>?_|refine A.t rfl fun bl=>?_|refine A.step rfl ?_|refine A.v rfl rfl ?_); refine A.ret1 (Λ' := []) rfl rfl rfl (List.nil_sublist _) ⟨?_, rfl⟩; refine Sb.eq (ai_eq ?_); simp at *; simp [bitM, *]; try decide))); ((repeat first|refine A.s rfl ?_|refine A.r rfl rfl ?_|refine A.w rfl rfl ?_|refine A.p rfl ?_|refine A.b rfl fun bx=>?_|refine A.t rfl fun bl=>?_|refine A.step rfl ?_|refine A.v rfl rfl ?_); refine A.ret1 (Λ' := []) rfl rfl rfl (List.nil_sublist _) ⟨?_, rfl⟩; refine Sb.eq (ai_eq ?_); simp at *; simp [bitM, *]; try decide))
  · refine Pure.of (S := tt) (fn := Tryz.f95) (n := 30) tt_ok Tryz.func95 rfl rfl rfl rfl fun w0 h0 F hgs => ?_
    ((repeat first|refine A.s rfl ?_|refine A.r rfl rfl ?_|refine A.w rfl rfl ?_|refine A.p rfl ?_|refine A.b rfl fun bx=>?_|refine A.t rfl fun bl=>?_|refine A.step rfl ?_|refine A.v rfl rfl ?_); refine A.cond rfl (fun h1 => ?_) (fun h1 => ?_); (· ((repeat first|refine A.s rfl ?_|refine A.r rfl rfl ?_|refine A.w rfl rfl ?_|refine A.p rfl ?_|refine A.b rfl fun bx=>?_|refine A.t rfl fun bl=>?_|refine A.step rfl ?_|refine A.v rfl rfl ?_); refine A.ret1 (Λ' := []) rfl rfl rfl (List.nil_sublist _) ⟨?_, rfl⟩; refine Sb.eq (ai_eq ?_); simp at *; simp [bitM, *]; try decide)); (repeat first|refine A.s rfl ?_|refine A.r rfl rfl ?_|refine A.w rfl rfl ?_|refine A.p rfl ?_|refine A.b rfl fun bx=>?_|refine A.t rfl fun bl=>?_|refine A.step rfl ?_|refine A.v rfl rfl ?_); refine A.cond rfl (fun h2 => ?_) (fun h2 => ?_); (· ((repeat first|refine A.s rfl ?_|refine A.r rfl rfl ?_|refine A.w rfl rfl ?_|refine A.p rfl ?_|refine A.b rfl fun bx=>?_|refine A.t rfl fun bl=>?_|refine A.step rfl ?_|refine A.v rfl rfl ?_); refine A.ret1 (Λ' := []) rfl rfl rfl (List.nil_sublist _) ⟨?_, rfl⟩; refine Sb.eq (ai_eq ?_); simp at *; simp [bitM, *]; try decide)); (repeat first|refine A.s rfl ?_|refine A.r rfl rfl ?_|refine A.w rfl rfl ?_|refine A.p rfl ?_|refine A.b rfl fun bx=>?_|refine A.t rfl fun bl=>?_|refine A.step rfl ?_|refine A.v rfl rfl ?_); refine A.cond rfl (fun h3 => ?_) (fun h3 => ?_); (· ((repeat first|refine A.s rfl ?_|refine A.r rfl rfl ?_|refine A.w rfl rfl ?_|refine A.p rfl ?_|refine A.b rfl fun bx=>?_|refine A.t rfl fun bl=>?_|refine A.step rfl ?_|refine A.v rfl rfl ?_); refine A.divrem rfl rfl rfl rfl rfl rfl rfl (by decide) ?_; ((repeat first|refine A.s rfl ?_|refine A.r rfl rfl ?_|refine A.w rfl rfl ?_|refine A.p rfl ?_|refine A.b rfl fun bx=>?_|refine A.t rfl fun bl=>?_|refine A.step rfl ?_|refine A.v rfl rfl ?_); refine A.ret1 (Λ' := []) rfl rfl rfl (List.nil_sublist _) ⟨?_, rfl⟩; refine Sb.eq (ai_eq ?_); simp at *; simp [bitM, *]; try decide))); ((repeat first|refine A.s rfl ?_|refine A.r rfl rfl ?_|refine A.w rfl rfl ?_|refine A.p rfl ?_|refine A.b rfl fun bx=>?_|refine A.t rfl fun bl=>?_|refine A.step rfl ?_|refine A.v rfl rfl ?_); refine A.ret1 (Λ' := []) rfl rfl rfl (List.nil_sublist _) ⟨?_, rfl⟩; refine Sb.eq (ai_eq ?_); simp at *; simp [bitM, *]; try decide))
  · refine Pure.of (S := tt) (fn := Tryz.f95) (n := 30) tt_ok Tryz.func95 rfl rfl rfl rfl fun w0 h0 F hgs => ?_
    ((repeat first|refine A.s rfl ?_|refine A.r rfl rfl ?_|refine A.w rfl rfl ?_|refine A.p rfl ?_|refine A.b rfl fun bx=>?_|refine A.t rfl fun bl=>?_|refine A.step rfl ?_|refine A.v rfl rfl ?_); refine A.cond rfl (fun h1 => ?_) (fun h1 => ?_); (· ((repeat first|refine A.s rfl ?_|refine A.r rfl rfl ?_|refine A.w rfl rfl ?_|refine A.p rfl ?_|refine A.b rfl fun bx=>?_|refine A.t rfl fun bl=>?_|refine A.step rfl ?_|refine A.v rfl rfl ?_); refine A.ret1 (Λ' := []) rfl rfl rfl (List.nil_sublist _) ⟨?_, rfl⟩; refine Sb.eq (ai_eq ?_); simp at *; simp [bitM, *]; try decide)); (repeat first|refine A.s rfl ?_|refine A.r rfl rfl ?_|refine A.w rfl rfl ?_|refine A.p rfl ?_|refine A.b rfl fun bx=>?_|refine A.t rfl fun bl=>?_|refine A.step rfl ?_|refine A.v rfl rfl ?_); refine A.cond rfl (fun h2 => ?_) (fun h2 => ?_); (· ((repeat first|refine A.s rfl ?_|refine A.r rfl rfl ?_|refine A.w rfl rfl ?_|refine A.p rfl ?_|refine A.b rfl fun bx=>?_|refine A.t rfl fun bl=>?_|refine A.step rfl ?_|refine A.v rfl rfl ?_); refine A.ret1 (Λ' := []) rfl rfl rfl (List.nil_sublist _) ⟨?_, rfl⟩; refine Sb.eq (ai_eq ?_); simp at *; simp [bitM, *]; try decide)); (repeat first|refine A.s rfl ?_|refine A.r rfl rfl ?_|refine A.w rfl rfl ?_|refine A.p rfl ?_|refine A.b rfl fun bx=>?_|refine A.t rfl fun bl=>?_|refine A.step rfl ?_|refine A.v rfl rfl ?_); refine A.cond rfl (fun h3 => ?_) (fun h3 => ?_); (· ((repeat first|refine A.s rfl ?_|refine A.r rfl rfl ?_|refine A.w rfl rfl ?_|refine A.p rfl ?_|refine A.b rfl fun bx=>?_|refine A.t rfl fun bl=>?_|refine A.step rfl ?_|refine A.v rfl rfl ?_); refine A.divrem rfl rfl rfl rfl rfl rfl rfl (by decide) ?_; ((repeat first|refine A.s rfl ?_|refine A.r rfl rfl ?_|refine A.w rfl rfl ?_|refine A.p rfl ?_|refine A.b rfl fun bx=>?_|refine A.t rfl fun bl=>?_|refine A.step rfl ?_|refine A.v rfl rfl ?_); refine A.ret1 (Λ' := []) rfl rfl rfl (List.nil_sublist _) ⟨?_, rfl⟩; refine Sb.eq (ai_eq ?_); simp at *; simp [bitM, *]; try decide))); ((repeat first|refine A.s rfl ?_|refine A.r rfl rfl ?_|refine A.w rfl rfl ?_|refine A.p rfl ?_|refine A.b rfl fun bx=>?_|refine A.t rfl fun bl=>?_|refine A.step rfl ?_|refine A.v rfl rfl ?_); refine A.ret1 (Λ' := []) rfl rfl rfl (List.nil_sublist _) ⟨?_, rfl⟩; refine Sb.eq (ai_eq ?_); simp at *; simp [bitM, *]; try decide))
  · refine Pure.of (S := tt) (fn := Tryz.f95) (n := 30) tt_ok Tryz.func95 rfl rfl rfl rfl fun w0 h0 F hgs => ?_
    ((repeat first|refine A.s rfl ?_|refine A.r rfl rfl ?_|refine A.w rfl rfl ?_|refine A.p rfl ?_|refine A.b rfl fun bx=>?_|refine A.t rfl fun bl=>?_|refine A.step rfl ?_|refine A.v rfl rfl ?_); refine A.cond rfl (fun h1 => ?_) (fun h1 => ?_); (· ((repeat first|refine A.s rfl ?_|refine A.r rfl rfl ?_|refine A.w rfl rfl ?_|refine A.p rfl ?_|refine A.b rfl fun bx=>?_|refine A.t rfl fun bl=>?_|refine A.step rfl ?_|refine A.v rfl rfl ?_); refine A.ret1 (Λ' := []) rfl rfl rfl (List.nil_sublist _) ⟨?_, rfl⟩; refine Sb.eq (ai_eq ?_); simp at *; simp [bitM, *]; try decide)); (repeat first|refine A.s rfl ?_|refine A.r rfl rfl ?_|refine A.w rfl rfl ?_|refine A.p rfl ?_|refine A.b rfl fun bx=>?_|refine A.t rfl fun bl=>?_|refine A.step rfl ?_|refine A.v rfl rfl ?_); refine A.cond rfl (fun h2 => ?_) (fun h2 => ?_); (· ((repeat first|refine A.s rfl ?_|refine A.r rfl rfl ?_|refine A.w rfl rfl ?_|refine A.p rfl ?_|refine A.b rfl fun bx=>?_|refine A.t rfl fun bl=>?_|refine A.step rfl ?_|refine A.v rfl rfl ?_); refine A.ret1 (Λ' := []) rfl rfl rfl (List.nil_sublist _) ⟨?_, rfl⟩; refine Sb.eq (ai_eq ?_); simp at *; simp [bitM, *]; try decide)); (repeat first|refine A.s rfl ?_|refine A.r rfl rfl ?_|refine A.w rfl rfl ?_|refine A.p rfl ?_|refine A.b rfl fun bx=>?_|refine A.t rfl fun bl=>?_|refine A.step rfl ?_|refine A.v rfl rfl ?_); refine A.cond rfl (fun h3 => ?_) (fun h3 => ?_); (· ((repeat first|refine A.s rfl ?_|refine A.r rfl rfl ?_|refine A.w rfl rfl ?_|refine A.p rfl ?_|refine A.b rfl fun bx=>?_|refine A.t rfl fun bl=>?_|refine A.step rfl ?_|refine A.v rfl rfl ?_); refine A.divrem rfl rfl rfl rfl rfl rfl rfl (by decide) ?_; ((repeat first|refine A.s rfl ?_|refine A.r rfl rfl ?_|refine A.w rfl rfl ?_|refine A.p rfl ?_|refine A.b rfl fun bx=>?_|refine A.t rfl fun bl=>?_|refine A.step rfl ?_|refine A.v rfl rfl ?_); refine A.ret1 (Λ' := []) rfl rfl rfl (List.nil_sublist _) ⟨?_, rfl⟩; refine Sb.eq (ai_eq ?_); simp at *; simp [bitM, *]; try decide))); ((repeat first|refine A.s rfl ?_|refine A.r rfl rfl ?_|refine A.w rfl rfl ?_|refine A.p rfl ?_|refine A.b rfl fun bx=>?_|refine A.t rfl fun bl=>?_|refine A.step rfl ?_|refine A.v rfl rfl ?_); refine A.ret1 (Λ' := []) rfl rfl rfl (List.nil_sublist _) ⟨?_, rfl⟩; refine Sb.eq (ai_eq ?_); simp at *; simp [bitM, *]; try decide))
def bat (a : Int) (i : Nat) : Int := uns a / 2 ^ i % 2
theorem bat_01 (a : Int) (i : Nat) : bit01 (bat a i) := by unfold bit01 bat; omega
def bsum (o a b : Int) : Nat → Int
  | 0 => 0
  | i + 1 => bsum o a b i + bitM o (bat a i) (bat b i) * 2 ^ i
theorem bsum_in (o a b : Int) : ∀ i, 0 ≤ bsum o a b i ∧ bsum o a b i < 2 ^ i
  | 0 => by simp [bsum]
  | i + 1 => by
    have ih := bsum_in o a b i
    have hp : (0 : Int) < 2 ^ i := Int.pow_pos (by decide)
    rw [bsum, Int.pow_succ]
    rcases bitM_01 o (bat_01 a i) (bat_01 b i) with h | h <;> rw [h] <;> omega
theorem bitwise_p (o a b : Int) (ha : i32 a) (hb : i32 b) : Pure Tryz.prog gs0 71 [AU8 o, AI32 a, AI32 b] (AI32 (w32 (bsum o a b 32))) := by
  have hua := uns_in ha
  have hub := uns_in hb
  have hsh : ∀ (x : Int) (i : Nat), 0 ≤ x → x < 4294967296 → i < 32 → arV .rem .i64 (arV .shr .i64 x (i : Int)) 2 = x / 2 ^ i % 2 := fun x i h0 h1 h2 => by
    show ((x.fdiv (2 ^ (min ((i : Int)).toNat IntKind.i64.bits))).tmod 2) = _
    have hm : min ((i : Int)).toNat IntKind.i64.bits = i := by simp [IntKind.bits]; omega
    have hp : (0 : Int) ≤ 2 ^ i := Int.le_of_lt (Int.pow_pos (by decide))
    rw [hm, Int.fdiv_eq_ediv_of_nonneg _ hp, Int.tmod_eq_emod_of_nonneg (Int.ediv_nonneg h0 hp)]
  refine Pure.of (S := tt) (fn := Tryz.f71) (n := 35) tt_ok Tryz.func71 rfl rfl rfl rfl fun w0 h0 F hgs => ?_
  (repeat first|refine A.s rfl ?_|refine A.r rfl rfl ?_|refine A.w rfl rfl ?_|refine A.p rfl ?_|refine A.b rfl fun bx=>?_|refine A.t rfl fun bl=>?_|refine A.step rfl ?_|refine A.v rfl rfl ?_)
  refine A.c rfl (runs_p a ha) .refl ?_
  (repeat first|refine A.s rfl ?_|refine A.r rfl rfl ?_|refine A.w rfl rfl ?_|refine A.p rfl ?_|refine A.b rfl fun bx=>?_|refine A.t rfl fun bl=>?_|refine A.step rfl ?_|refine A.v rfl rfl ?_)
  refine A.c rfl (runs_p b hb) .refl ?_
  (repeat first|refine A.s rfl ?_|refine A.r rfl rfl ?_|refine A.w rfl rfl ?_|refine A.p rfl ?_|refine A.b rfl fun bx=>?_|refine A.t rfl fun bl=>?_|refine A.step rfl ?_|refine A.v rfl rfl ?_)
  refine A.keep [0, 7, 8, 9, 10] rfl ?_
  refine A.loopP (ι := Nat) (fun i => (⟨[(0, AU8 o), (7, AI (uns a)), (8, AI (uns b)), (9, AI (bsum o a b i)), (10, AI (i : Int))], []⟩, [])) (fun i => i ≤ 32) (fun i => 32 - i) 0 (by omega) rfl fun i hi ih => ?_
  (repeat first|refine A.s rfl ?_|refine A.r rfl rfl ?_|refine A.w rfl rfl ?_|refine A.p rfl ?_|refine A.b rfl fun bx=>?_|refine A.t rfl fun bl=>?_|refine A.step rfl ?_|refine A.v rfl rfl ?_)
  refine A.cond rfl (fun hc => ?_) (fun hc => ?_)
  · simp at hc
    (repeat first|refine A.s rfl ?_|refine A.r rfl rfl ?_|refine A.w rfl rfl ?_|refine A.p rfl ?_|refine A.b rfl fun bx=>?_|refine A.t rfl fun bl=>?_|refine A.step rfl ?_|refine A.v rfl rfl ?_)
    refine A.draw 13 [0, 1, 2, 3, 4, 5, 6, 7, 8, 9, 11, 10, 12] noPubs [(10, AI (bitM o (bat a i) (bat b i)))] (by kernel_rfl) (by kernel_rfl) ?_
    (repeat first|refine WA.s rfl ?_|refine WA.r rfl rfl ?_|refine WA.p rfl ?_|refine WA.step rfl ?_|refine WA.v rfl rfl ?_)
    refine WA.shift rfl rfl rfl rfl rfl rfl rfl (by omega) ?_
    (repeat first|refine WA.s rfl ?_|refine WA.r rfl rfl ?_|refine WA.p rfl ?_|refine WA.step rfl ?_|refine WA.v rfl rfl ?_)
    refine WA.divrem rfl rfl rfl rfl rfl rfl rfl rfl (by decide) ?_
    (repeat first|refine WA.s rfl ?_|refine WA.r rfl rfl ?_|refine WA.p rfl ?_|refine WA.step rfl ?_|refine WA.v rfl rfl ?_)
    refine WA.shift rfl rfl rfl rfl rfl rfl rfl (by omega) ?_
    (repeat first|refine WA.s rfl ?_|refine WA.r rfl rfl ?_|refine WA.p rfl ?_|refine WA.step rfl ?_|refine WA.v rfl rfl ?_)
    refine WA.divrem rfl rfl rfl rfl rfl rfl rfl rfl (by decide) ?_
    (repeat first|refine WA.s rfl ?_|refine WA.r rfl rfl ?_|refine WA.p rfl ?_|refine WA.step rfl ?_|refine WA.v rfl rfl ?_)
    refine WA.valE 24 rfl (x' := AI (bat a i)) (ai_eq (hsh _ i hua.1 hua.2 (by omega))) ?_
    refine WA.valE 28 rfl (x' := AI (bat b i)) (ai_eq (hsh _ i hub.1 hub.2 (by omega))) ?_
    refine WA.c rfl rfl (bit_p o _ _ (bat_01 a i) (bat_01 b i)) (.sub .refl) ?_
    (repeat first|refine WA.s rfl ?_|refine WA.r rfl rfl ?_|refine WA.p rfl ?_|refine WA.step rfl ?_|refine WA.v rfl rfl ?_)
    refine WA.shift rfl rfl rfl rfl rfl rfl rfl (by omega) ?_
    refine WA.nil rfl ?_
    (repeat first|refine A.s rfl ?_|refine A.r rfl rfl ?_|refine A.w rfl rfl ?_|refine A.p rfl ?_|refine A.b rfl fun bx=>?_|refine A.t rfl fun bl=>?_|refine A.step rfl ?_|refine A.v rfl rfl ?_)
    have hbs := bsum_in o a b i
    have hbs' := bsum_in o a b (i + 1)
    have hp := pow32 (k := i) (by omega)
    have hp1 := pow32 (k := i + 1) (by omega)
    refine A.valE 9 rfl (x' := AI (bsum o a b (i + 1))) (ai_eq ?_) ?_
    · show IntKind.i64.wrap (bsum o a b i + IntKind.i64.wrap (bitM o (bat a i) (bat b i) * 2 ^ (min ((i : Int)).toNat IntKind.i64.bits))) = _
      have hm : min ((i : Int)).toNat IntKind.i64.bits = i := by simp [IntKind.bits]; omega
      rw [hm]
      have h0 : 0 ≤ bitM o (bat a i) (bat b i) * 2 ^ i ∧ bitM o (bat a i) (bat b i) * 2 ^ i ≤ 4294967296 := by
        have hp0 : (0 : Int) < 2 ^ i := Int.pow_pos (by decide)
        rcases bitM_01 o (bat_01 a i) (bat_01 b i) with h | h <;> rw [h] <;> omega
      rw [wr64 (bitM o (bat a i) (bat b i) * 2 ^ i) (by omega)]
      rw [bsum] at hbs' ⊢
      rw [wr64 _ (by omega)]
    refine A.valE 10 rfl (x' := AI ((i + 1 : Nat) : Int)) (inc_eq i (by omega)) ?_
    refine A.sub (by repeat (first | exact trivial | refine ⟨⟨_, rfl, .refl⟩, ?_⟩)) (ih (i + 1) (by omega) (by omega))
  · simp at hc
    have : i = 32 := by omega
    subst this
    have hbs := bsum_in o a b 32
    have hp := pow32 (k := 32) (by omega)
    (repeat first|refine A.s rfl ?_|refine A.r rfl rfl ?_|refine A.w rfl rfl ?_|refine A.p rfl ?_|refine A.b rfl fun bx=>?_|refine A.t rfl fun bl=>?_|refine A.step rfl ?_|refine A.v rfl rfl ?_)
    refine A.c rfl (rwrap_p (bsum o a b 32) (by unfold i64; omega)) .refl ?_
    (repeat first|refine A.s rfl ?_|refine A.r rfl rfl ?_|refine A.w rfl rfl ?_|refine A.p rfl ?_|refine A.b rfl fun bx=>?_|refine A.t rfl fun bl=>?_|refine A.step rfl ?_|refine A.v rfl rfl ?_); refine A.ret1 (Λ' := []) rfl rfl rfl (List.nil_sublist _) ⟨?_, rfl⟩; exact .refl

/-! ### bits, all at once -/
theorem uns_bv {a : Int} (ha : i32 a) : uns a = ((BitVec.ofInt 32 a).toNat : Int) := by
  rw [BitVec.toNat_ofInt]
  unfold i32 at ha
  simp only [show ((2 ^ 32 : Nat) : Int) = 4294967296 by decide]
  unfold uns; split <;> omega
def b2i (b : Bool) : Int := if b then 1 else 0
theorem bat_bv {a : Int} (ha : i32 a) (i : Nat) : bat a i = b2i ((BitVec.ofInt 32 a).getLsbD i) := by
  unfold bat b2i
  rw [uns_bv ha, BitVec.getLsbD, Nat.testBit_eq_decide_div_mod_eq]
  generalize (BitVec.ofInt 32 a).toNat = x
  have : (x : Int) / 2 ^ i = ((x / 2 ^ i : Nat) : Int) := by simp
  rw [this]
  by_cases h : x / 2 ^ i % 2 = 1
  · simp [h]; omega
  · simp [h]; omega
theorem bsum_bv (o : Int) (f : Bool → Bool → Bool) (hf : ∀ x y, bitM o (b2i x) (b2i y) = b2i (f x y)) {a b : Int} (ha : i32 a) (hb : i32 b) (z : BitVec 32)
    (hz : ∀ i, i < 32 → z.getLsbD i = f ((BitVec.ofInt 32 a).getLsbD i) ((BitVec.ofInt 32 b).getLsbD i)) : ∀ i, i ≤ 32 → bsum o a b i = ((z.toNat % 2 ^ i : Nat) : Int)
  | 0, _ => by simp [bsum, Nat.mod_one]
  | i + 1, hi => by
    have ih := bsum_bv o f hf ha hb z hz i (by omega)
    have h1 := hz i (by omega)
    rw [BitVec.getLsbD, Nat.testBit_eq_decide_div_mod_eq] at h1
    rw [bsum, ih, bat_bv ha, bat_bv hb, hf, ← h1, Nat.mod_pow_succ]
    have h2 : z.toNat / 2 ^ i % 2 = 0 ∨ z.toNat / 2 ^ i % 2 = 1 := by omega
    rcases h2 with h2 | h2
    · simp [b2i, h2]
    · simp [b2i, h2]
theorem bsum_eq (o : Int) (f : Bool → Bool → Bool) (hf : ∀ x y, bitM o (b2i x) (b2i y) = b2i (f x y)) {a b : Int} (ha : i32 a) (hb : i32 b) (z : BitVec 32)
    (hz : ∀ i, i < 32 → z.getLsbD i = f ((BitVec.ofInt 32 a).getLsbD i) ((BitVec.ofInt 32 b).getLsbD i)) : w32 (bsum o a b 32) = IntKind.i32.wrap (z.toNat : Int) := by
  rw [bsum_bv o f hf ha hb z hz 32 (Nat.le_refl _), Nat.mod_eq_of_lt z.isLt]; rfl
theorem band_eq {a b : Int} (ha : i32 a) (hb : i32 b) : w32 (bsum 9 a b 32) = band a b :=
  bsum_eq 9 (· && ·) (by intro x y; cases x <;> cases y <;> decide) ha hb (BitVec.ofInt 32 a &&& BitVec.ofInt 32 b) (fun i _ => BitVec.getLsbD_and)
theorem bor_eq {a b : Int} (ha : i32 a) (hb : i32 b) : w32 (bsum 10 a b 32) = bor a b :=
  bsum_eq 10 (· || ·) (by intro x y; cases x <;> cases y <;> decide) ha hb (BitVec.ofInt 32 a ||| BitVec.ofInt 32 b) (fun i _ => BitVec.getLsbD_or)
theorem bxor_eq {a b : Int} (ha : i32 a) (hb : i32 b) : w32 (bsum 11 a b 32) = bxor a b :=
  bsum_eq 11 (fun x y => x ^^ y) (by intro x y; cases x <;> cases y <;> decide) ha hb (BitVec.ofInt 32 a ^^^ BitVec.ofInt 32 b) (fun i _ => BitVec.getLsbD_xor)
theorem bnot_eq {a b : Int} (ha : i32 a) (hb : i32 b) : w32 (bsum 25 a b 32) = bnot a :=
  bsum_eq 25 (fun x _ => !x) (by intro x y; cases x <;> cases y <;> decide) ha hb (BitVec.ofInt 32 (-1) ^^^ BitVec.ofInt 32 a) (fun i hi => by
    rw [BitVec.getLsbD_xor, show BitVec.ofInt 32 (-1) = BitVec.allOnes 32 by decide, BitVec.getLsbD_allOnes]; simp [hi])

theorem fit_p (v : Int) : Pure Tryz.prog gs0 66 [AI v] (optA (fit32 v)) := by
  refine Pure.of (S := tt) (fn := Tryz.f66) (n := 9) tt_ok Tryz.func66 rfl rfl rfl rfl fun w0 h0 F hgs => ?_
  (repeat first|refine A.s rfl ?_|refine A.r rfl rfl ?_|refine A.w rfl rfl ?_|refine A.p rfl ?_|refine A.b rfl fun bx=>?_|refine A.t rfl fun bl=>?_|refine A.step rfl ?_|refine A.v rfl rfl ?_)
  refine A.c rfl (rfits_p _) .refl ?_
  (repeat first|refine A.s rfl ?_|refine A.r rfl rfl ?_|refine A.w rfl rfl ?_|refine A.p rfl ?_|refine A.b rfl fun bx=>?_|refine A.t rfl fun bl=>?_|refine A.step rfl ?_|refine A.v rfl rfl ?_)
  refine A.cond rfl (fun hc => ?_) (fun hc => ?_)
  · simp at hc; (repeat first|refine A.s rfl ?_|refine A.r rfl rfl ?_|refine A.w rfl rfl ?_|refine A.p rfl ?_|refine A.b rfl fun bx=>?_|refine A.t rfl fun bl=>?_|refine A.step rfl ?_|refine A.v rfl rfl ?_); refine A.ret2 (Λ' := []) rfl rfl rfl rfl (List.nil_sublist _) ⟨?_, rfl⟩; refine Sb.eq ?_; simp [fit32, hc]
  · simp at hc; (repeat first|refine A.s rfl ?_|refine A.r rfl rfl ?_|refine A.w rfl rfl ?_|refine A.p rfl ?_|refine A.b rfl fun bx=>?_|refine A.t rfl fun bl=>?_|refine A.step rfl ?_|refine A.v rfl rfl ?_); refine A.ret2 (Λ' := []) rfl rfl rfl rfl (List.nil_sublist _) ⟨?_, rfl⟩; refine Sb.eq ?_
    show AV.tp [AI32 (w32 v), AB true] = _
    rw [fit_w32 hc]; simp [fit32, hc]
theorem some14_p (v : Int) (m : Bool) : Pure Tryz.prog gs0 65 [AI32 v, AB m] (optA (if m then none else some v)) := by
  refine Pure.of (S := tt) (fn := Tryz.f65) (n := 8) tt_ok Tryz.func65 rfl rfl rfl rfl fun w0 h0 F hgs => ?_
  (repeat first|refine A.s rfl ?_|refine A.r rfl rfl ?_|refine A.w rfl rfl ?_|refine A.p rfl ?_|refine A.b rfl fun bx=>?_|refine A.t rfl fun bl=>?_|refine A.step rfl ?_|refine A.v rfl rfl ?_)
  refine A.cond rfl (fun hc => ?_) (fun hc => ?_)
  · subst hc; (repeat first|refine A.s rfl ?_|refine A.r rfl rfl ?_|refine A.w rfl rfl ?_|refine A.p rfl ?_|refine A.b rfl fun bx=>?_|refine A.t rfl fun bl=>?_|refine A.step rfl ?_|refine A.v rfl rfl ?_); refine A.ret2 (Λ' := []) rfl rfl rfl rfl (List.nil_sublist _) ⟨?_, rfl⟩; exact .refl
  · subst hc; (repeat first|refine A.s rfl ?_|refine A.r rfl rfl ?_|refine A.w rfl rfl ?_|refine A.p rfl ?_|refine A.b rfl fun bx=>?_|refine A.t rfl fun bl=>?_|refine A.step rfl ?_|refine A.v rfl rfl ?_); refine A.ret2 (Λ' := []) rfl rfl rfl rfl (List.nil_sublist _) ⟨?_, rfl⟩; exact .refl
theorem truth14_p (b : Bool) : Pure Tryz.prog gs0 74 [AB b] (optA (some (truthI b))) := by
  refine Pure.of (S := tt) (fn := Tryz.f74) (n := 5) tt_ok Tryz.func74 rfl rfl rfl rfl fun w0 h0 F hgs => ?_
  (repeat first|refine A.s rfl ?_|refine A.r rfl rfl ?_|refine A.w rfl rfl ?_|refine A.p rfl ?_|refine A.b rfl fun bx=>?_|refine A.t rfl fun bl=>?_|refine A.step rfl ?_|refine A.v rfl rfl ?_)
  refine A.cond rfl (fun hc => ?_) (fun hc => ?_)
  · subst hc; (repeat first|refine A.s rfl ?_|refine A.r rfl rfl ?_|refine A.w rfl rfl ?_|refine A.p rfl ?_|refine A.b rfl fun bx=>?_|refine A.t rfl fun bl=>?_|refine A.step rfl ?_|refine A.v rfl rfl ?_); refine A.ret2 (Λ' := []) rfl rfl rfl rfl (List.nil_sublist _) ⟨?_, rfl⟩; exact .refl
  · subst hc; (repeat first|refine A.s rfl ?_|refine A.r rfl rfl ?_|refine A.w rfl rfl ?_|refine A.p rfl ?_|refine A.b rfl fun bx=>?_|refine A.t rfl fun bl=>?_|refine A.step rfl ?_|refine A.v rfl rfl ?_); refine A.ret2 (Λ' := []) rfl rfl rfl rfl (List.nil_sublist _) ⟨?_, rfl⟩; exact .refl
def convC (t v : Int) : Option Int := if t = 1 ∨ t = 2 ∧ 0 ≤ v ∧ v ≤ 255 ∨ t = 3 ∧ 0 ≤ v ∧ v ≤ 1 then some v else none
theorem rapply_p (o a b : Int) (ha : i32 a) (hb : i32 b) : Pure Tryz.prog gs0 39 [AU8 o, AI32 a, AI32 b] (optA (applyC o a b)) := by
  have hs : i64 (a + b) := by unfold i32 at ha hb; unfold i64; omega
  have hd : i64 (a - b) := by unfold i32 at ha hb; unfold i64; omega
  have hn : i64 (0 - a) := by unfold i32 at ha; unfold i64; omega
  have hm := mul_bound ha hb
  have es : IntKind.i64.wrap (IntKind.i64.wrap a + IntKind.i64.wrap b) = a + b := by rw [w64_32 ha, w64_32 hb, w64_id hs]
  have ed : IntKind.i64.wrap (IntKind.i64.wrap a - IntKind.i64.wrap b) = a - b := by rw [w64_32 ha, w64_32 hb, w64_id hd]
  have em : IntKind.i64.wrap (IntKind.i64.wrap a * IntKind.i64.wrap b) = a * b := by rw [w64_32 ha, w64_32 hb, w64_id hm]
  have en : IntKind.i64.wrap (0 - IntKind.i64.wrap a) = 0 - a := by rw [w64_32 ha, w64_id hn]
  by_cases h : o = 1
  · subst h; refine Pure.of (S := tt) (fn := Tryz.f39) (n := 229) tt_ok Tryz.func39 rfl rfl rfl rfl fun w0 h0 F hgs => ?_; (repeat first|refine A.s rfl ?_|refine A.r rfl rfl ?_|refine A.w rfl rfl ?_|refine A.p rfl ?_|refine A.b rfl fun bx=>?_|refine A.t rfl fun bl=>?_|refine A.step rfl ?_|refine A.v rfl rfl ?_); refine A.c rfl (fit_p _) .refl ?_; (repeat first|refine A.s rfl ?_|refine A.r rfl rfl ?_|refine A.w rfl rfl ?_|refine A.p rfl ?_|refine A.b rfl fun bx=>?_|refine A.t rfl fun bl=>?_|refine A.step rfl ?_|refine A.v rfl rfl ?_); refine A.ret2 (Λ' := []) rfl rfl rfl rfl (List.nil_sublist _) ⟨?_, rfl⟩; rw [es]; exact .refl
  by_cases h : o = 2
  · subst h; refine Pure.of (S := tt) (fn := Tryz.f39) (n := 229) tt_ok Tryz.func39 rfl rfl rfl rfl fun w0 h0 F hgs => ?_; (repeat first|refine A.s rfl ?_|refine A.r rfl rfl ?_|refine A.w rfl rfl ?_|refine A.p rfl ?_|refine A.b rfl fun bx=>?_|refine A.t rfl fun bl=>?_|refine A.step rfl ?_|refine A.v rfl rfl ?_); refine A.c rfl (fit_p _) .refl ?_; (repeat first|refine A.s rfl ?_|refine A.r rfl rfl ?_|refine A.w rfl rfl ?_|refine A.p rfl ?_|refine A.b rfl fun bx=>?_|refine A.t rfl fun bl=>?_|refine A.step rfl ?_|refine A.v rfl rfl ?_); refine A.ret2 (Λ' := []) rfl rfl rfl rfl (List.nil_sublist _) ⟨?_, rfl⟩; rw [ed]; exact .refl
  by_cases h : o = 3
  · subst h; refine Pure.of (S := tt) (fn := Tryz.f39) (n := 229) tt_ok Tryz.func39 rfl rfl rfl rfl fun w0 h0 F hgs => ?_; (repeat first|refine A.s rfl ?_|refine A.r rfl rfl ?_|refine A.w rfl rfl ?_|refine A.p rfl ?_|refine A.b rfl fun bx=>?_|refine A.t rfl fun bl=>?_|refine A.step rfl ?_|refine A.v rfl rfl ?_); refine A.c rfl (fit_p _) .refl ?_; (repeat first|refine A.s rfl ?_|refine A.r rfl rfl ?_|refine A.w rfl rfl ?_|refine A.p rfl ?_|refine A.b rfl fun bx=>?_|refine A.t rfl fun bl=>?_|refine A.step rfl ?_|refine A.v rfl rfl ?_); refine A.ret2 (Λ' := []) rfl rfl rfl rfl (List.nil_sublist _) ⟨?_, rfl⟩; rw [em]; exact .refl
  by_cases h : o = 4
  · subst h; refine Pure.of (S := tt) (fn := Tryz.f39) (n := 229) tt_ok Tryz.func39 rfl rfl rfl rfl fun w0 h0 F hgs => ?_; (repeat first|refine A.s rfl ?_|refine A.r rfl rfl ?_|refine A.w rfl rfl ?_|refine A.p rfl ?_|refine A.b rfl fun bx=>?_|refine A.t rfl fun bl=>?_|refine A.step rfl ?_|refine A.v rfl rfl ?_); refine A.c rfl (rdiv_p a b ha hb) .refl ?_; (repeat first|refine A.s rfl ?_|refine A.r rfl rfl ?_|refine A.w rfl rfl ?_|refine A.p rfl ?_|refine A.b rfl fun bx=>?_|refine A.t rfl fun bl=>?_|refine A.step rfl ?_|refine A.v rfl rfl ?_); refine A.c rfl (some14_p _ _) .refl ?_; (repeat first|refine A.s rfl ?_|refine A.r rfl rfl ?_|refine A.w rfl rfl ?_|refine A.p rfl ?_|refine A.b rfl fun bx=>?_|refine A.t rfl fun bl=>?_|refine A.step rfl ?_|refine A.v rfl rfl ?_); refine A.ret2 (Λ' := []) rfl rfl rfl rfl (List.nil_sublist _) ⟨?_, rfl⟩; refine Sb.eq ?_
    show optA _ = optA (if divB a b then none else some (a.tdiv b))
    unfold divM; cases divB a b <;> rfl
  by_cases h : o = 5
  · subst h; refine Pure.of (S := tt) (fn := Tryz.f39) (n := 229) tt_ok Tryz.func39 rfl rfl rfl rfl fun w0 h0 F hgs => ?_; (repeat first|refine A.s rfl ?_|refine A.r rfl rfl ?_|refine A.w rfl rfl ?_|refine A.p rfl ?_|refine A.b rfl fun bx=>?_|refine A.t rfl fun bl=>?_|refine A.step rfl ?_|refine A.v rfl rfl ?_); refine A.c rfl (rrem_p a b ha hb) .refl ?_; (repeat first|refine A.s rfl ?_|refine A.r rfl rfl ?_|refine A.w rfl rfl ?_|refine A.p rfl ?_|refine A.b rfl fun bx=>?_|refine A.t rfl fun bl=>?_|refine A.step rfl ?_|refine A.v rfl rfl ?_); refine A.c rfl (some14_p _ _) .refl ?_; (repeat first|refine A.s rfl ?_|refine A.r rfl rfl ?_|refine A.w rfl rfl ?_|refine A.p rfl ?_|refine A.b rfl fun bx=>?_|refine A.t rfl fun bl=>?_|refine A.step rfl ?_|refine A.v rfl rfl ?_); refine A.ret2 (Λ' := []) rfl rfl rfl rfl (List.nil_sublist _) ⟨?_, rfl⟩; refine Sb.eq ?_
    show optA _ = optA (if b = 0 then none else some (a.tmod b))
    unfold remM; by_cases h : b = 0 <;> simp [h]
  by_cases h : o = 6
  · subst h; refine Pure.of (S := tt) (fn := Tryz.f39) (n := 229) tt_ok Tryz.func39 rfl rfl rfl rfl fun w0 h0 F hgs => ?_; (repeat first|refine A.s rfl ?_|refine A.r rfl rfl ?_|refine A.w rfl rfl ?_|refine A.p rfl ?_|refine A.b rfl fun bx=>?_|refine A.t rfl fun bl=>?_|refine A.step rfl ?_|refine A.v rfl rfl ?_); refine A.valE 82 rfl (x' := AI (a + b)) (ai_eq es) ?_; refine A.c rfl (rwrap_p _ hs) .refl ?_; ((repeat first|refine A.s rfl ?_|refine A.r rfl rfl ?_|refine A.w rfl rfl ?_|refine A.p rfl ?_|refine A.b rfl fun bx=>?_|refine A.t rfl fun bl=>?_|refine A.step rfl ?_|refine A.v rfl rfl ?_); refine A.ret2 (Λ' := []) rfl rfl rfl rfl (List.nil_sublist _) ⟨?_, rfl⟩; exact .refl)
  by_cases h : o = 7
  · subst h; refine Pure.of (S := tt) (fn := Tryz.f39) (n := 229) tt_ok Tryz.func39 rfl rfl rfl rfl fun w0 h0 F hgs => ?_; (repeat first|refine A.s rfl ?_|refine A.r rfl rfl ?_|refine A.w rfl rfl ?_|refine A.p rfl ?_|refine A.b rfl fun bx=>?_|refine A.t rfl fun bl=>?_|refine A.step rfl ?_|refine A.v rfl rfl ?_); refine A.valE 90 rfl (x' := AI (a - b)) (ai_eq ed) ?_; refine A.c rfl (rwrap_p _ hd) .refl ?_; ((repeat first|refine A.s rfl ?_|refine A.r rfl rfl ?_|refine A.w rfl rfl ?_|refine A.p rfl ?_|refine A.b rfl fun bx=>?_|refine A.t rfl fun bl=>?_|refine A.step rfl ?_|refine A.v rfl rfl ?_); refine A.ret2 (Λ' := []) rfl rfl rfl rfl (List.nil_sublist _) ⟨?_, rfl⟩; exact .refl)
  by_cases h : o = 8
  · subst h; refine Pure.of (S := tt) (fn := Tryz.f39) (n := 229) tt_ok Tryz.func39 rfl rfl rfl rfl fun w0 h0 F hgs => ?_; (repeat first|refine A.s rfl ?_|refine A.r rfl rfl ?_|refine A.w rfl rfl ?_|refine A.p rfl ?_|refine A.b rfl fun bx=>?_|refine A.t rfl fun bl=>?_|refine A.step rfl ?_|refine A.v rfl rfl ?_); refine A.c rfl (rmul_p a b ha hb) .refl ?_; ((repeat first|refine A.s rfl ?_|refine A.r rfl rfl ?_|refine A.w rfl rfl ?_|refine A.p rfl ?_|refine A.b rfl fun bx=>?_|refine A.t rfl fun bl=>?_|refine A.step rfl ?_|refine A.v rfl rfl ?_); refine A.ret2 (Λ' := []) rfl rfl rfl rfl (List.nil_sublist _) ⟨?_, rfl⟩; exact .refl)
  by_cases h : o = 9
  · subst h; refine Pure.of (S := tt) (fn := Tryz.f39) (n := 229) tt_ok Tryz.func39 rfl rfl rfl rfl fun w0 h0 F hgs => ?_; (repeat first|refine A.s rfl ?_|refine A.r rfl rfl ?_|refine A.w rfl rfl ?_|refine A.p rfl ?_|refine A.b rfl fun bx=>?_|refine A.t rfl fun bl=>?_|refine A.step rfl ?_|refine A.v rfl rfl ?_); refine A.c rfl (bitwise_p 9 a b ha hb) .refl ?_; (repeat first|refine A.s rfl ?_|refine A.r rfl rfl ?_|refine A.w rfl rfl ?_|refine A.p rfl ?_|refine A.b rfl fun bx=>?_|refine A.t rfl fun bl=>?_|refine A.step rfl ?_|refine A.v rfl rfl ?_); refine A.ret2 (Λ' := []) rfl rfl rfl rfl (List.nil_sublist _) ⟨?_, rfl⟩; rw [band_eq ha hb]; exact .refl
  by_cases h : o = 10
  · subst h; refine Pure.of (S := tt) (fn := Tryz.f39) (n := 229) tt_ok Tryz.func39 rfl rfl rfl rfl fun w0 h0 F hgs => ?_; (repeat first|refine A.s rfl ?_|refine A.r rfl rfl ?_|refine A.w rfl rfl ?_|refine A.p rfl ?_|refine A.b rfl fun bx=>?_|refine A.t rfl fun bl=>?_|refine A.step rfl ?_|refine A.v rfl rfl ?_); refine A.c rfl (bitwise_p 10 a b ha hb) .refl ?_; (repeat first|refine A.s rfl ?_|refine A.r rfl rfl ?_|refine A.w rfl rfl ?_|refine A.p rfl ?_|refine A.b rfl fun bx=>?_|refine A.t rfl fun bl=>?_|refine A.step rfl ?_|refine A.v rfl rfl ?_); refine A.ret2 (Λ' := []) rfl rfl rfl rfl (List.nil_sublist _) ⟨?_, rfl⟩; rw [bor_eq ha hb]; exact .refl
  by_cases h : o = 11
  · subst h; refine Pure.of (S := tt) (fn := Tryz.f39) (n := 229) tt_ok Tryz.func39 rfl rfl rfl rfl fun w0 h0 F hgs => ?_; (repeat first|refine A.s rfl ?_|refine A.r rfl rfl ?_|refine A.w rfl rfl ?_|refine A.p rfl ?_|refine A.b rfl fun bx=>?_|refine A.t rfl fun bl=>?_|refine A.step rfl ?_|refine A.v rfl rfl ?_); refine A.c rfl (bitwise_p 11 a b ha hb) .refl ?_; (repeat first|refine A.s rfl ?_|refine A.r rfl rfl ?_|refine A.w rfl rfl ?_|refine A.p rfl ?_|refine A.b rfl fun bx=>?_|refine A.t rfl fun bl=>?_|refine A.step rfl ?_|refine A.v rfl rfl ?_); refine A.ret2 (Λ' := []) rfl rfl rfl rfl (List.nil_sublist _) ⟨?_, rfl⟩; rw [bxor_eq ha hb]; exact .refl
  by_cases h : o = 25
  · subst h; refine Pure.of (S := tt) (fn := Tryz.f39) (n := 229) tt_ok Tryz.func39 rfl rfl rfl rfl fun w0 h0 F hgs => ?_; (repeat first|refine A.s rfl ?_|refine A.r rfl rfl ?_|refine A.w rfl rfl ?_|refine A.p rfl ?_|refine A.b rfl fun bx=>?_|refine A.t rfl fun bl=>?_|refine A.step rfl ?_|refine A.v rfl rfl ?_); refine A.c rfl (bitwise_p 25 a b ha hb) .refl ?_; (repeat first|refine A.s rfl ?_|refine A.r rfl rfl ?_|refine A.w rfl rfl ?_|refine A.p rfl ?_|refine A.b rfl fun bx=>?_|refine A.t rfl fun bl=>?_|refine A.step rfl ?_|refine A.v rfl rfl ?_); refine A.ret2 (Λ' := []) rfl rfl rfl rfl (List.nil_sublist _) ⟨?_, rfl⟩; rw [bnot_eq ha hb]; exact .refl
  by_cases h : o = 12
  · subst h; refine Pure.of (S := tt) (fn := Tryz.f39) (n := 229) tt_ok Tryz.func39 rfl rfl rfl rfl fun w0 h0 F hgs => ?_; (repeat first|refine A.s rfl ?_|refine A.r rfl rfl ?_|refine A.w rfl rfl ?_|refine A.p rfl ?_|refine A.b rfl fun bx=>?_|refine A.t rfl fun bl=>?_|refine A.step rfl ?_|refine A.v rfl rfl ?_); refine A.c rfl (rshl_p a b ha hb) .refl ?_; ((repeat first|refine A.s rfl ?_|refine A.r rfl rfl ?_|refine A.w rfl rfl ?_|refine A.p rfl ?_|refine A.b rfl fun bx=>?_|refine A.t rfl fun bl=>?_|refine A.step rfl ?_|refine A.v rfl rfl ?_); refine A.ret2 (Λ' := []) rfl rfl rfl rfl (List.nil_sublist _) ⟨?_, rfl⟩; exact .refl)
  by_cases h : o = 13
  · subst h; refine Pure.of (S := tt) (fn := Tryz.f39) (n := 229) tt_ok Tryz.func39 rfl rfl rfl rfl fun w0 h0 F hgs => ?_; (repeat first|refine A.s rfl ?_|refine A.r rfl rfl ?_|refine A.w rfl rfl ?_|refine A.p rfl ?_|refine A.b rfl fun bx=>?_|refine A.t rfl fun bl=>?_|refine A.step rfl ?_|refine A.v rfl rfl ?_); refine A.c rfl (rshr_p a b ha hb) .refl ?_; ((repeat first|refine A.s rfl ?_|refine A.r rfl rfl ?_|refine A.w rfl rfl ?_|refine A.p rfl ?_|refine A.b rfl fun bx=>?_|refine A.t rfl fun bl=>?_|refine A.step rfl ?_|refine A.v rfl rfl ?_); refine A.ret2 (Λ' := []) rfl rfl rfl rfl (List.nil_sublist _) ⟨?_, rfl⟩; exact .refl)
  by_cases h : o = 14
  · subst h; refine Pure.of (S := tt) (fn := Tryz.f39) (n := 229) tt_ok Tryz.func39 rfl rfl rfl rfl fun w0 h0 F hgs => ?_; (repeat first|refine A.s rfl ?_|refine A.r rfl rfl ?_|refine A.w rfl rfl ?_|refine A.p rfl ?_|refine A.b rfl fun bx=>?_|refine A.t rfl fun bl=>?_|refine A.step rfl ?_|refine A.v rfl rfl ?_); refine A.c rfl (truth14_p _) .refl ?_; ((repeat first|refine A.s rfl ?_|refine A.r rfl rfl ?_|refine A.w rfl rfl ?_|refine A.p rfl ?_|refine A.b rfl fun bx=>?_|refine A.t rfl fun bl=>?_|refine A.step rfl ?_|refine A.v rfl rfl ?_); refine A.ret2 (Λ' := []) rfl rfl rfl rfl (List.nil_sublist _) ⟨?_, rfl⟩; exact .refl)
  by_cases h : o = 15
  · subst h; refine Pure.of (S := tt) (fn := Tryz.f39) (n := 229) tt_ok Tryz.func39 rfl rfl rfl rfl fun w0 h0 F hgs => ?_; (repeat first|refine A.s rfl ?_|refine A.r rfl rfl ?_|refine A.w rfl rfl ?_|refine A.p rfl ?_|refine A.b rfl fun bx=>?_|refine A.t rfl fun bl=>?_|refine A.step rfl ?_|refine A.v rfl rfl ?_); refine A.c rfl (truth14_p _) .refl ?_; ((repeat first|refine A.s rfl ?_|refine A.r rfl rfl ?_|refine A.w rfl rfl ?_|refine A.p rfl ?_|refine A.b rfl fun bx=>?_|refine A.t rfl fun bl=>?_|refine A.step rfl ?_|refine A.v rfl rfl ?_); refine A.ret2 (Λ' := []) rfl rfl rfl rfl (List.nil_sublist _) ⟨?_, rfl⟩; exact .refl)
  by_cases h : o = 16
  · subst h; refine Pure.of (S := tt) (fn := Tryz.f39) (n := 229) tt_ok Tryz.func39 rfl rfl rfl rfl fun w0 h0 F hgs => ?_; (repeat first|refine A.s rfl ?_|refine A.r rfl rfl ?_|refine A.w rfl rfl ?_|refine A.p rfl ?_|refine A.b rfl fun bx=>?_|refine A.t rfl fun bl=>?_|refine A.step rfl ?_|refine A.v rfl rfl ?_); refine A.c rfl (truth14_p _) .refl ?_; ((repeat first|refine A.s rfl ?_|refine A.r rfl rfl ?_|refine A.w rfl rfl ?_|refine A.p rfl ?_|refine A.b rfl fun bx=>?_|refine A.t rfl fun bl=>?_|refine A.step rfl ?_|refine A.v rfl rfl ?_); refine A.ret2 (Λ' := []) rfl rfl rfl rfl (List.nil_sublist _) ⟨?_, rfl⟩; exact .refl)
  by_cases h : o = 17
  · subst h; refine Pure.of (S := tt) (fn := Tryz.f39) (n := 229) tt_ok Tryz.func39 rfl rfl rfl rfl fun w0 h0 F hgs => ?_; (repeat first|refine A.s rfl ?_|refine A.r rfl rfl ?_|refine A.w rfl rfl ?_|refine A.p rfl ?_|refine A.b rfl fun bx=>?_|refine A.t rfl fun bl=>?_|refine A.step rfl ?_|refine A.v rfl rfl ?_); refine A.c rfl (truth14_p _) .refl ?_; ((repeat first|refine A.s rfl ?_|refine A.r rfl rfl ?_|refine A.w rfl rfl ?_|refine A.p rfl ?_|refine A.b rfl fun bx=>?_|refine A.t rfl fun bl=>?_|refine A.step rfl ?_|refine A.v rfl rfl ?_); refine A.ret2 (Λ' := []) rfl rfl rfl rfl (List.nil_sublist _) ⟨?_, rfl⟩; exact .refl)
  by_cases h : o = 18
  · subst h; refine Pure.of (S := tt) (fn := Tryz.f39) (n := 229) tt_ok Tryz.func39 rfl rfl rfl rfl fun w0 h0 F hgs => ?_; (repeat first|refine A.s rfl ?_|refine A.r rfl rfl ?_|refine A.w rfl rfl ?_|refine A.p rfl ?_|refine A.b rfl fun bx=>?_|refine A.t rfl fun bl=>?_|refine A.step rfl ?_|refine A.v rfl rfl ?_); refine A.c rfl (truth14_p _) .refl ?_; ((repeat first|refine A.s rfl ?_|refine A.r rfl rfl ?_|refine A.w rfl rfl ?_|refine A.p rfl ?_|refine A.b rfl fun bx=>?_|refine A.t rfl fun bl=>?_|refine A.step rfl ?_|refine A.v rfl rfl ?_); refine A.ret2 (Λ' := []) rfl rfl rfl rfl (List.nil_sublist _) ⟨?_, rfl⟩; exact .refl)
  by_cases h : o = 19
  · subst h; refine Pure.of (S := tt) (fn := Tryz.f39) (n := 229) tt_ok Tryz.func39 rfl rfl rfl rfl fun w0 h0 F hgs => ?_; (repeat first|refine A.s rfl ?_|refine A.r rfl rfl ?_|refine A.w rfl rfl ?_|refine A.p rfl ?_|refine A.b rfl fun bx=>?_|refine A.t rfl fun bl=>?_|refine A.step rfl ?_|refine A.v rfl rfl ?_); refine A.c rfl (truth14_p _) .refl ?_; ((repeat first|refine A.s rfl ?_|refine A.r rfl rfl ?_|refine A.w rfl rfl ?_|refine A.p rfl ?_|refine A.b rfl fun bx=>?_|refine A.t rfl fun bl=>?_|refine A.step rfl ?_|refine A.v rfl rfl ?_); refine A.ret2 (Λ' := []) rfl rfl rfl rfl (List.nil_sublist _) ⟨?_, rfl⟩; exact .refl)
  by_cases h : o = 20
  · subst h; refine Pure.of (S := tt) (fn := Tryz.f39) (n := 229) tt_ok Tryz.func39 rfl rfl rfl rfl fun w0 h0 F hgs => ?_; (repeat first|refine A.s rfl ?_|refine A.r rfl rfl ?_|refine A.w rfl rfl ?_|refine A.p rfl ?_|refine A.b rfl fun bx=>?_|refine A.t rfl fun bl=>?_|refine A.step rfl ?_|refine A.v rfl rfl ?_)
    refine A.cond rfl (fun hc => ?_) (fun hc => ?_)
    · (repeat first|refine A.s rfl ?_|refine A.r rfl rfl ?_|refine A.w rfl rfl ?_|refine A.p rfl ?_|refine A.b rfl fun bx=>?_|refine A.t rfl fun bl=>?_|refine A.step rfl ?_|refine A.v rfl rfl ?_); refine A.ret2 (Λ' := []) rfl rfl rfl rfl (List.nil_sublist _) ⟨?_, rfl⟩; refine Sb.eq ?_
      have : (isT a && isT b) = false := by simp at hc; simp [isT]; omega
      show _ = optA (if isT a && isT b then _ else none)
      rw [this]; rfl
    · have : (isT a && isT b) = true := by simp at hc; simp [isT]; omega
      (repeat first|refine A.s rfl ?_|refine A.r rfl rfl ?_|refine A.w rfl rfl ?_|refine A.p rfl ?_|refine A.b rfl fun bx=>?_|refine A.t rfl fun bl=>?_|refine A.step rfl ?_|refine A.v rfl rfl ?_); refine A.c rfl (truth14_p _) .refl ?_; (repeat first|refine A.s rfl ?_|refine A.r rfl rfl ?_|refine A.w rfl rfl ?_|refine A.p rfl ?_|refine A.b rfl fun bx=>?_|refine A.t rfl fun bl=>?_|refine A.step rfl ?_|refine A.v rfl rfl ?_); refine A.ret2 (Λ' := []) rfl rfl rfl rfl (List.nil_sublist _) ⟨?_, rfl⟩; refine Sb.eq ?_
      show _ = optA (if isT a && isT b then some (truthI (a == 1 && b == 1)) else none)
      rw [this]; cases (a == 1) <;> rfl
  by_cases h : o = 21
  · subst h; refine Pure.of (S := tt) (fn := Tryz.f39) (n := 229) tt_ok Tryz.func39 rfl rfl rfl rfl fun w0 h0 F hgs => ?_; (repeat first|refine A.s rfl ?_|refine A.r rfl rfl ?_|refine A.w rfl rfl ?_|refine A.p rfl ?_|refine A.b rfl fun bx=>?_|refine A.t rfl fun bl=>?_|refine A.step rfl ?_|refine A.v rfl rfl ?_)
    refine A.cond rfl (fun hc => ?_) (fun hc => ?_)
    · (repeat first|refine A.s rfl ?_|refine A.r rfl rfl ?_|refine A.w rfl rfl ?_|refine A.p rfl ?_|refine A.b rfl fun bx=>?_|refine A.t rfl fun bl=>?_|refine A.step rfl ?_|refine A.v rfl rfl ?_); refine A.ret2 (Λ' := []) rfl rfl rfl rfl (List.nil_sublist _) ⟨?_, rfl⟩; refine Sb.eq ?_
      have : (isT a && isT b) = false := by simp at hc; simp [isT]; omega
      show _ = optA (if isT a && isT b then _ else none)
      rw [this]; rfl
    · have : (isT a && isT b) = true := by simp at hc; simp [isT]; omega
      (repeat first|refine A.s rfl ?_|refine A.r rfl rfl ?_|refine A.w rfl rfl ?_|refine A.p rfl ?_|refine A.b rfl fun bx=>?_|refine A.t rfl fun bl=>?_|refine A.step rfl ?_|refine A.v rfl rfl ?_); refine A.c rfl (truth14_p _) .refl ?_; (repeat first|refine A.s rfl ?_|refine A.r rfl rfl ?_|refine A.w rfl rfl ?_|refine A.p rfl ?_|refine A.b rfl fun bx=>?_|refine A.t rfl fun bl=>?_|refine A.step rfl ?_|refine A.v rfl rfl ?_); refine A.ret2 (Λ' := []) rfl rfl rfl rfl (List.nil_sublist _) ⟨?_, rfl⟩; refine Sb.eq ?_
      show _ = optA (if isT a && isT b then some (truthI (a == 1 || b == 1)) else none)
      rw [this]; cases (a == 1) <;> rfl
  by_cases h : o = 22
  · subst h; refine Pure.of (S := tt) (fn := Tryz.f39) (n := 229) tt_ok Tryz.func39 rfl rfl rfl rfl fun w0 h0 F hgs => ?_; (repeat first|refine A.s rfl ?_|refine A.r rfl rfl ?_|refine A.w rfl rfl ?_|refine A.p rfl ?_|refine A.b rfl fun bx=>?_|refine A.t rfl fun bl=>?_|refine A.step rfl ?_|refine A.v rfl rfl ?_); refine A.c rfl (rafter_p a b ha hb) .refl ?_; (repeat first|refine A.s rfl ?_|refine A.r rfl rfl ?_|refine A.w rfl rfl ?_|refine A.p rfl ?_|refine A.b rfl fun bx=>?_|refine A.t rfl fun bl=>?_|refine A.step rfl ?_|refine A.v rfl rfl ?_); refine A.c rfl (truth14_p _) .refl ?_; ((repeat first|refine A.s rfl ?_|refine A.r rfl rfl ?_|refine A.w rfl rfl ?_|refine A.p rfl ?_|refine A.b rfl fun bx=>?_|refine A.t rfl fun bl=>?_|refine A.step rfl ?_|refine A.v rfl rfl ?_); refine A.ret2 (Λ' := []) rfl rfl rfl rfl (List.nil_sublist _) ⟨?_, rfl⟩; exact .refl)
  by_cases h : o = 23
  · subst h; refine Pure.of (S := tt) (fn := Tryz.f39) (n := 229) tt_ok Tryz.func39 rfl rfl rfl rfl fun w0 h0 F hgs => ?_; (repeat first|refine A.s rfl ?_|refine A.r rfl rfl ?_|refine A.w rfl rfl ?_|refine A.p rfl ?_|refine A.b rfl fun bx=>?_|refine A.t rfl fun bl=>?_|refine A.step rfl ?_|refine A.v rfl rfl ?_); refine A.c rfl (fit_p _) .refl ?_; (repeat first|refine A.s rfl ?_|refine A.r rfl rfl ?_|refine A.w rfl rfl ?_|refine A.p rfl ?_|refine A.b rfl fun bx=>?_|refine A.t rfl fun bl=>?_|refine A.step rfl ?_|refine A.v rfl rfl ?_); refine A.ret2 (Λ' := []) rfl rfl rfl rfl (List.nil_sublist _) ⟨?_, rfl⟩; rw [en]; exact .refl
  by_cases h : o = 24
  · subst h; refine Pure.of (S := tt) (fn := Tryz.f39) (n := 229) tt_ok Tryz.func39 rfl rfl rfl rfl fun w0 h0 F hgs => ?_; (repeat first|refine A.s rfl ?_|refine A.r rfl rfl ?_|refine A.w rfl rfl ?_|refine A.p rfl ?_|refine A.b rfl fun bx=>?_|refine A.t rfl fun bl=>?_|refine A.step rfl ?_|refine A.v rfl rfl ?_); refine A.valE 214 rfl (x' := AI (0 - a)) (ai_eq en) ?_; refine A.c rfl (rwrap_p _ hn) .refl ?_; ((repeat first|refine A.s rfl ?_|refine A.r rfl rfl ?_|refine A.w rfl rfl ?_|refine A.p rfl ?_|refine A.b rfl fun bx=>?_|refine A.t rfl fun bl=>?_|refine A.step rfl ?_|refine A.v rfl rfl ?_); refine A.ret2 (Λ' := []) rfl rfl rfl rfl (List.nil_sublist _) ⟨?_, rfl⟩; exact .refl)
  by_cases h : o = 26
  · subst h; refine Pure.of (S := tt) (fn := Tryz.f39) (n := 229) tt_ok Tryz.func39 rfl rfl rfl rfl fun w0 h0 F hgs => ?_; (repeat first|refine A.s rfl ?_|refine A.r rfl rfl ?_|refine A.w rfl rfl ?_|refine A.p rfl ?_|refine A.b rfl fun bx=>?_|refine A.t rfl fun bl=>?_|refine A.step rfl ?_|refine A.v rfl rfl ?_)
    refine A.cond rfl (fun hc => ?_) (fun hc => ?_)
    · (repeat first|refine A.s rfl ?_|refine A.r rfl rfl ?_|refine A.w rfl rfl ?_|refine A.p rfl ?_|refine A.b rfl fun bx=>?_|refine A.t rfl fun bl=>?_|refine A.step rfl ?_|refine A.v rfl rfl ?_); refine A.ret2 (Λ' := []) rfl rfl rfl rfl (List.nil_sublist _) ⟨?_, rfl⟩; refine Sb.eq ?_
      have : isT a = false := by simp at hc; simp [isT]; omega
      show _ = optA (if isT a then _ else none)
      rw [this]; rfl
    · have : isT a = true := by simp at hc; simp [isT]; omega
      (repeat first|refine A.s rfl ?_|refine A.r rfl rfl ?_|refine A.w rfl rfl ?_|refine A.p rfl ?_|refine A.b rfl fun bx=>?_|refine A.t rfl fun bl=>?_|refine A.step rfl ?_|refine A.v rfl rfl ?_); refine A.c rfl (truth14_p _) .refl ?_; (repeat first|refine A.s rfl ?_|refine A.r rfl rfl ?_|refine A.w rfl rfl ?_|refine A.p rfl ?_|refine A.b rfl fun bx=>?_|refine A.t rfl fun bl=>?_|refine A.step rfl ?_|refine A.v rfl rfl ?_); refine A.ret2 (Λ' := []) rfl rfl rfl rfl (List.nil_sublist _) ⟨?_, rfl⟩; refine Sb.eq ?_
      show _ = optA (if isT a then some (truthI (a == 0)) else none)
      rw [this]; rfl
  have e : applyC o a b = none := by unfold applyC; repeat rw [if_neg (by assumption)]
  rw [e]
  refine Pure.of (S := tt) (fn := Tryz.f39) (n := 229) tt_ok Tryz.func39 rfl rfl rfl rfl fun w0 h0 F hgs => ?_
  (repeat (first | first|refine A.s rfl ?_|refine A.r rfl rfl ?_|refine A.w rfl rfl ?_|refine A.p rfl ?_|refine A.b rfl fun bx=>?_|refine A.t rfl fun bl=>?_ | refine A.cond rfl (fun h => (by simp at h; omega)) (fun _ => ?_) | first|refine A.step rfl ?_|refine A.v rfl rfl ?_))
  refine A.ret2 (Λ' := []) rfl rfl rfl rfl (List.nil_sublist _) ⟨?_, rfl⟩; exact .refl
end Go.Proofs.YtlnbmocgnkjlfaaGreat
