/-
  Chapter 14: FoldLaws.
-/
import Derived.Test.YtlnbmocgnkjlfaaQ14p

namespace Go.Proofs.Ytlnbmocgnkjlfaa
open Go Go.Tp
set_option linter.unusedVariables false
set_option linter.unusedSimpArgs false
set_option maxRecDepth 100000
set_option maxHeartbeats 4000000

/-! ### bits -/
theorem bv_band (a b : Int) : BitVec.ofInt 32 (band a b) = BitVec.ofInt 32 a &&& BitVec.ofInt 32 b := by
  show BitVec.ofInt 32 (IntKind.i32.wrap _) = _
  rw [ofInt_wrap32, BitVec.ofNat_toNat]; exact BitVec.setWidth_eq _
theorem bv_bor (a b : Int) : BitVec.ofInt 32 (bor a b) = BitVec.ofInt 32 a ||| BitVec.ofInt 32 b := by
  show BitVec.ofInt 32 (IntKind.i32.wrap _) = _
  rw [ofInt_wrap32, BitVec.ofNat_toNat]; exact BitVec.setWidth_eq _
theorem bv_bnot (a : Int) : BitVec.ofInt 32 (bnot a) = ~~~ BitVec.ofInt 32 a := by
  show BitVec.ofInt 32 (IntKind.i32.wrap _) = _
  rw [ofInt_wrap32, BitVec.ofNat_toNat]
  refine (BitVec.setWidth_eq _).trans ?_
  show BitVec.ofInt 32 (-1) ^^^ BitVec.ofInt 32 a = _
  rw [show BitVec.ofInt 32 (-1) = BitVec.allOnes 32 by decide, BitVec.allOnes_xor]
theorem morgan_1 (a b : Int) : bnot (band a b) = bor (bnot a) (bnot b) := by
  show IntKind.i32.wrap _ = IntKind.i32.wrap _
  congr 2
  show (BitVec.ofInt 32 (-1) ^^^ BitVec.ofInt 32 (band a b)).toNat = (BitVec.ofInt 32 (bnot a) ||| BitVec.ofInt 32 (bnot b)).toNat
  rw [show BitVec.ofInt 32 (-1) = BitVec.allOnes 32 by decide, BitVec.allOnes_xor, bv_band, bv_bnot, bv_bnot, BitVec.not_and]
theorem morgan_2 (a b : Int) : bxor a b = band (bor a b) (bnot (band a b)) := by
  show IntKind.i32.wrap _ = IntKind.i32.wrap _
  congr 2
  show (BitVec.ofInt 32 a ^^^ BitVec.ofInt 32 b).toNat = (BitVec.ofInt 32 (bor a b) &&& BitVec.ofInt 32 (bnot (band a b))).toNat
  rw [bv_bor, bv_bnot, bv_band]
  congr 1
  apply BitVec.eq_of_getLsbD_eq
  intro i hi
  simp only [BitVec.getLsbD_xor, BitVec.getLsbD_and, BitVec.getLsbD_or, BitVec.getLsbD_not]
  cases (BitVec.ofInt 32 a).getLsbD i <;> cases (BitVec.ofInt 32 b).getLsbD i <;> simp [hi]
theorem band_in (a b : Int) : i32 (band a b) := w32_in _
theorem bor_in (a b : Int) : i32 (bor a b) := w32_in _
theorem bnot_in (a : Int) : i32 (bnot a) := w32_in _

/-! ### the law's functions -/
theorem got_p (o a b r : Int) (ha : i32 a) (hb : i32 b) (hr : (applyC o a b).getD 0 = r) : Pure Try.prog gs0 16 [AU8 o, AI32 a, AI32 b] (AI32 r) := by
  have h := apply_p o a b ha hb
  subst hr
  refine Pure.of (S := tt) (fn := Try.f16) (n := 17) tt_ok Try.func16 rfl rfl rfl rfl fun w0 h0 F hgs => ?_
  (repeat first|refine A.s rfl ?_|refine A.r rfl rfl ?_|refine A.w rfl rfl ?_|refine A.p rfl ?_|refine A.b rfl fun bx=>?_|refine A.t rfl fun bl=>?_); refine A.c rfl h .refl ?_
  (repeat first|refine A.s rfl ?_|refine A.r rfl rfl ?_|refine A.w rfl rfl ?_|refine A.p rfl ?_|refine A.b rfl fun bx=>?_|refine A.t rfl fun bl=>?_); refine A.ret1 (Λ' := []) rfl rfl rfl (List.nil_sublist _) ⟨?_, rfl⟩; exact .refl
abbrev gotA : AV := .pe 1 (.fn 16 [] [])
theorem not_p (a : Int) (ha : i32 a) : Pure Try.prog gs0 17 [AI32 a, gotA] (AI32 (bnot a)) := by
  have h := got_p 25 a 0 (bnot a) ha i32_0 rfl
  refine Pure.of (S := tt) (fn := Try.f17) (n := 7) tt_ok Try.func17 rfl rfl rfl rfl fun w0 h0 F hgs => ?_
  (repeat first|refine A.s rfl ?_|refine A.r rfl rfl ?_|refine A.w rfl rfl ?_|refine A.p rfl ?_|refine A.b rfl fun bx=>?_|refine A.t rfl fun bl=>?_); refine A.c rfl h .refl ?_
  (repeat first|refine A.s rfl ?_|refine A.r rfl rfl ?_|refine A.w rfl rfl ?_|refine A.p rfl ?_|refine A.b rfl fun bx=>?_|refine A.t rfl fun bl=>?_); refine A.ret1 (Λ' := []) rfl rfl rfl (List.nil_sublist _) ⟨?_, rfl⟩; exact .refl

/-! ### plain facts -/
def pairs4 : List (Int × Int) := [(1, 6), (2, 7), (3, 8), (23, 24)]
theorem pairs_ok {i : Nat} {o p : Int} (h : pairs4[i]? = some (o, p)) (a b : Int) : ∃ y, applyC p a b = some y ∧ (applyC o a b = some y ∨ applyC o a b = none) := by
  have hf : ∀ n, fit32 n = some (w32 n) ∨ fit32 n = none := fun n => by
    unfold fit32
    split
    · rename_i h; left; rw [fit_w32 h]
    · right; rfl
  have hm : (o, p) ∈ pairs4 := List.mem_of_getElem? h
  simp only [pairs4, List.mem_cons, Prod.mk.injEq, List.not_mem_nil, or_false] at hm
  rcases hm with ⟨rfl, rfl⟩ | ⟨rfl, rfl⟩ | ⟨rfl, rfl⟩ | ⟨rfl, rfl⟩
  · exact ⟨w32 (a + b), rfl, hf _⟩
  · exact ⟨w32 (a - b), rfl, hf _⟩
  · exact ⟨w32 (a * b), rfl, hf _⟩
  · exact ⟨w32 (0 - a), rfl, hf _⟩
theorem tri (a b : Int) : IntKind.i32.wrap (IntKind.i32.wrap (truthI (decide (a < b)) + truthI (a == b)) + truthI (decide (b < a))) = 1 := by
  rcases Int.lt_trichotomy a b with h | h | h
  · have h1 : ¬ b < a := by omega
    have h2 : (a == b) = false := by simp; omega
    rw [decide_eq_true h, decide_eq_false h1, h2]; decide
  · subst h; simp; decide
  · have h1 : ¬ a < b := by omega
    have h2 : (a == b) = false := by simp; omega
    rw [decide_eq_true h, decide_eq_false h1, h2]; decide
theorem two_t (x y : Bool) (h : x = !y) : IntKind.i32.wrap (truthI x + truthI y) = 1 := by subst h; cases y <;> decide
theorem div_rem {a b : Int} (ha : i32 a) (hb : i32 b) (h0 : b ≠ 0) (hq : i32 (a.tdiv b)) : IntKind.i64.wrap (IntKind.i64.wrap (IntKind.i64.wrap (a.tdiv b) * IntKind.i64.wrap b) + IntKind.i64.wrap (a.tmod b)) = IntKind.i64.wrap a := by
  have hr := tmod_in ha hb h0
  have he := Int.mul_tdiv_add_tmod a b
  rw [Int.mul_comm] at he
  rw [w64_32 hq, w64_32 hb, w64_32 hr, w64_32 ha]
  unfold i32 at *
  have hm : a.tdiv b * b = a - a.tmod b := by omega
  have e1 : IntKind.i64.wrap (a - a.tmod b) = a - a.tmod b := w64_id (by unfold i64; omega)
  rw [hm, e1, show a - a.tmod b + a.tmod b = a by omega]
  exact w64_id (by unfold i64; omega)
theorem sum_two {a b : Int} (h : (isT a && isT b) = true) : truthI (a == 1 && b == 1) = truthI (w32 (a + b) == 2) := by
  simp only [isT, Bool.and_eq_true, Bool.or_eq_true, beq_iff_eq] at h
  obtain ⟨h1, h2⟩ := h
  rcases h1 with rfl | rfl <;> rcases h2 with rfl | rfl <;> decide

theorem laws_law (m : Int) (a b : Int) (ha : i32 a) (hb : i32 b) : Pure Try.prog (gsM m) 5 [AI32 a, AI32 b] (AB true) := by
  have ap := fun o => (apply_p o a b ha hb).any (gs := gsM m)
  have g16 := (got_p 16 a b _ ha hb rfl).any (gs := gsM m)
  have g14 := (got_p 14 a b _ ha hb rfl).any (gs := gsM m)
  have g17 := (got_p 17 a b _ ha hb rfl).any (gs := gsM m)
  have g18 := (got_p 18 a b _ ha hb rfl).any (gs := gsM m)
  have g19 := (got_p 19 a b _ ha hb rfl).any (gs := gsM m)
  have g15 := (got_p 15 a b _ ha hb rfl).any (gs := gsM m)
  have g9 := (got_p 9 a b (band a b) ha hb rfl).any (gs := gsM m)
  have g10 := (got_p 10 a b (bor a b) ha hb rfl).any (gs := gsM m)
  have g11 := (got_p 11 a b (bxor a b) ha hb rfl).any (gs := gsM m)
  have n1 := (not_p (band a b) (band_in a b)).any (gs := gsM m)
  have n2 := (not_p a ha).any (gs := gsM m)
  have n3 := (not_p b hb).any (gs := gsM m)
  have g10n := (got_p 10 (bnot a) (bnot b) (bor (bnot a) (bnot b)) (bnot_in a) (bnot_in b) rfl).any (gs := gsM m)
  have g9n := (got_p 9 (bor a b) (bnot (band a b)) (band (bor a b) (bnot (band a b))) (bor_in a b) (bnot_in _) rfl).any (gs := gsM m)
  have g14s := (got_p 14 (w32 (a + b)) 2 (truthI (w32 (a + b) == 2)) (w32_in _) (by unfold i32; omega) rfl).any (gs := gsM m)
  have h1 : applyC 4 a b = if divB a b then none else some (a.tdiv b) := rfl
  have h2 : applyC 5 a b = if b = 0 then none else some (a.tmod b) := rfl
  have h3 : applyC 20 a b = if isT a && isT b then some (truthI (a == 1 && b == 1)) else none := rfl
  have h4 : applyC 21 a b = if isT a && isT b then some (truthI (a == 1 || b == 1)) else none := rfl
  have a4 := ap 4
  have a5 := ap 5
  have a20 := ap 20
  have a21 := ap 21
  rw [h1] at a4
  rw [h2] at a5
  rw [h3] at a20
  rw [h4] at a21
  refine Pure.of (S := tt) (fn := Try.f5) (n := 241) tt_ok Try.func5 rfl rfl rfl rfl fun w0 h0 F hgs => ?_
  (repeat first|refine A.s rfl ?_|refine A.r rfl rfl ?_|refine A.w rfl rfl ?_|refine A.p rfl ?_|refine A.b rfl fun bx=>?_|refine A.t rfl fun bl=>?_)
  refine A.val 26 rfl (x' := .sl 2 (pairs4.map fun p => .ag [AU8 p.1, AU8 p.2]) none) Sb.own1 ?_
  refine A.keep [0, 1, 4, 26, 27, 28] rfl ?_
  refine A.loopP (ι := Nat) (fun i => (⟨[(0, AI32 a), (1, AI32 b), (4, AB false), (26, .sl 2 (pairs4.map fun p => .ag [AU8 p.1, AU8 p.2]) none), (27, AI 4), (28, AI (i : Int))], []⟩, []))
    (fun i => i ≤ 4) (fun i => 4 - i) 0 (by decide) rfl fun i hi ih => ?_
  (repeat first|refine A.s rfl ?_|refine A.r rfl rfl ?_|refine A.w rfl rfl ?_|refine A.p rfl ?_|refine A.b rfl fun bx=>?_|refine A.t rfl fun bl=>?_)
  refine A.cond rfl (fun hc => ?_) (fun hc => ?_)
  · simp at hc
    refine Exists.elim (at_exN (l := pairs4) (i := i) (by show i < 4; omega)) fun op hop => ?_
    obtain ⟨o, p⟩ := op
    obtain ⟨y, k1, k2⟩ := pairs_ok hop a b
    have b1 := ap o
    have b2 := ap p
    rw [k1] at b2
    rcases k2 with k2 | k2
    · rw [k2] at b1
      (repeat first|refine A.s rfl ?_|refine A.r rfl rfl ?_|refine A.w rfl rfl ?_|refine A.p rfl ?_|refine A.b rfl fun bx=>?_|refine A.t rfl fun bl=>?_)
      refine A.x rfl (by omega) (map_at hop) rfl rfl ?_
      (repeat first|refine A.s rfl ?_|refine A.r rfl rfl ?_|refine A.w rfl rfl ?_|refine A.p rfl ?_|refine A.b rfl fun bx=>?_|refine A.t rfl fun bl=>?_)
      refine A.indexArr rfl rfl rfl rfl rfl rfl rfl rfl (by decide) (by decide) ?_
      (repeat first|refine A.s rfl ?_|refine A.r rfl rfl ?_|refine A.w rfl rfl ?_|refine A.p rfl ?_|refine A.b rfl fun bx=>?_|refine A.t rfl fun bl=>?_); refine A.c rfl b1 .refl ?_
      (repeat first|refine A.s rfl ?_|refine A.r rfl rfl ?_|refine A.w rfl rfl ?_|refine A.p rfl ?_|refine A.b rfl fun bx=>?_|refine A.t rfl fun bl=>?_)
      refine A.indexArr rfl rfl rfl rfl rfl rfl rfl rfl (by decide) (by decide) ?_
      (repeat first|refine A.s rfl ?_|refine A.r rfl rfl ?_|refine A.w rfl rfl ?_|refine A.p rfl ?_|refine A.b rfl fun bx=>?_|refine A.t rfl fun bl=>?_); refine A.c rfl b2 .refl ?_
      (repeat first|refine A.s rfl ?_|refine A.r rfl rfl ?_|refine A.w rfl rfl ?_|refine A.p rfl ?_|refine A.b rfl fun bx=>?_|refine A.t rfl fun bl=>?_)
      refine A.gF rfl (by simp) ?_
      (repeat first|refine A.s rfl ?_|refine A.r rfl rfl ?_|refine A.w rfl rfl ?_|refine A.p rfl ?_|refine A.b rfl fun bx=>?_|refine A.t rfl fun bl=>?_)
      refine A.valE 28 rfl (x' := AI ((i + 1 : Nat) : Int)) (inc_eq i (by omega)) ?_
      refine A.less (Λ' := []) (List.nil_sublist _) ?_
      refine A.sub (by repeat (first | exact trivial | refine ⟨⟨_, rfl, .refl⟩, ?_⟩)) (ih (i + 1) (by omega) (by omega))
    · rw [k2] at b1
      (repeat first|refine A.s rfl ?_|refine A.r rfl rfl ?_|refine A.w rfl rfl ?_|refine A.p rfl ?_|refine A.b rfl fun bx=>?_|refine A.t rfl fun bl=>?_)
      refine A.x rfl (by omega) (map_at hop) rfl rfl ?_
      (repeat first|refine A.s rfl ?_|refine A.r rfl rfl ?_|refine A.w rfl rfl ?_|refine A.p rfl ?_|refine A.b rfl fun bx=>?_|refine A.t rfl fun bl=>?_)
      refine A.indexArr rfl rfl rfl rfl rfl rfl rfl rfl (by decide) (by decide) ?_
      (repeat first|refine A.s rfl ?_|refine A.r rfl rfl ?_|refine A.w rfl rfl ?_|refine A.p rfl ?_|refine A.b rfl fun bx=>?_|refine A.t rfl fun bl=>?_); refine A.c rfl b1 .refl ?_
      (repeat first|refine A.s rfl ?_|refine A.r rfl rfl ?_|refine A.w rfl rfl ?_|refine A.p rfl ?_|refine A.b rfl fun bx=>?_|refine A.t rfl fun bl=>?_)
      refine A.indexArr rfl rfl rfl rfl rfl rfl rfl rfl (by decide) (by decide) ?_
      (repeat first|refine A.s rfl ?_|refine A.r rfl rfl ?_|refine A.w rfl rfl ?_|refine A.p rfl ?_|refine A.b rfl fun bx=>?_|refine A.t rfl fun bl=>?_); refine A.c rfl b2 .refl ?_
      (repeat first|refine A.s rfl ?_|refine A.r rfl rfl ?_|refine A.w rfl rfl ?_|refine A.p rfl ?_|refine A.b rfl fun bx=>?_|refine A.t rfl fun bl=>?_)
      refine A.valE 28 rfl (x' := AI ((i + 1 : Nat) : Int)) (inc_eq i (by omega)) ?_
      refine A.less (Λ' := []) (List.nil_sublist _) ?_
      refine A.sub (by repeat (first | exact trivial | refine ⟨⟨_, rfl, .refl⟩, ?_⟩)) (ih (i + 1) (by omega) (by omega))
  · simp at hc
    (repeat first|refine A.s rfl ?_|refine A.r rfl rfl ?_|refine A.w rfl rfl ?_|refine A.p rfl ?_|refine A.b rfl fun bx=>?_|refine A.t rfl fun bl=>?_); refine A.c rfl a4 .refl ?_
    (repeat first|refine A.s rfl ?_|refine A.r rfl rfl ?_|refine A.w rfl rfl ?_|refine A.p rfl ?_|refine A.b rfl fun bx=>?_|refine A.t rfl fun bl=>?_); refine A.c rfl a5 .refl ?_
    (repeat first|refine A.s rfl ?_|refine A.r rfl rfl ?_|refine A.w rfl rfl ?_|refine A.p rfl ?_|refine A.b rfl fun bx=>?_|refine A.t rfl fun bl=>?_|refine A.step rfl ?_|refine A.v rfl rfl ?_)
    refine A.valE 102 rfl (x' := AB false) (ab_eq ?_) ?_
    · by_cases hb0 : b = 0
      · subst hb0
        simp [divB]
      · by_cases hdv : divB a b = true
        · simp [hdv, hb0]
        · have hdv : divB a b = false := by simpa using hdv
          have hq := tdiv_in ha hdv
          have := div_rem ha hb hb0 hq
          simp only [hdv, hb0, if_false, Option.isSome_some, Option.getD_some, Bool.false_eq_true]
          simp [this, hb0]
    (repeat first|refine A.s rfl ?_|refine A.r rfl rfl ?_|refine A.w rfl rfl ?_|refine A.p rfl ?_|refine A.b rfl fun bx=>?_|refine A.t rfl fun bl=>?_)
    refine A.freeze 15 rfl rfl rfl ?_
    (repeat first|refine A.s rfl ?_|refine A.r rfl rfl ?_|refine A.w rfl rfl ?_|refine A.p rfl ?_|refine A.b rfl fun bx=>?_|refine A.t rfl fun bl=>?_)
    refine A.draw 47 [0, 1, 2, 4, 5, 6, 9, 10, 11, 3, 7, 8, 12, 13, 14, 15, 16, 17, 18, 20, 21, 22, 19, 23, 24, 25, 26, 27, 28, 29, 30, 32, 33, 34, 31, 35, 36, 37, 38, 39, 40, 41, 42, 44, 45, 46, 43] noPubs
      [(3, AI32 (truthI (decide (a < b)))), (7, AI32 (truthI (a == b))), (12, AI32 (truthI (decide (b < a)))), (19, AI32 (truthI (decide (a ≤ b)))), (23, AI32 (truthI (decide (b < a)))), (31, AI32 (truthI (decide (b ≤ a)))), (35, AI32 (truthI (decide (a < b)))), (43, AI32 (truthI (a != b)))] (by kernel_rfl) (by kernel_rfl) ?_
    (repeat first|refine WA.s rfl ?_|refine WA.r rfl rfl ?_|refine WA.p rfl ?_)
    refine WA.c rfl rfl g16 (.sub .refl) ?_
    refine WA.c rfl rfl g14 (.sub .refl) ?_
    (repeat first|refine WA.s rfl ?_|refine WA.r rfl rfl ?_|refine WA.p rfl ?_)
    refine WA.c rfl rfl g17 (.sub .refl) ?_
    (repeat first|refine WA.s rfl ?_|refine WA.r rfl rfl ?_|refine WA.p rfl ?_)
    refine WA.gF rfl (by show (IntKind.i32.wrap (IntKind.i32.wrap (truthI (decide (a < b)) + truthI (a == b)) + truthI (decide (b < a))) != 1) = false; rw [tri]; rfl) ?_
    (repeat first|refine WA.s rfl ?_|refine WA.r rfl rfl ?_|refine WA.p rfl ?_)
    refine WA.c rfl rfl g18 (.sub .refl) ?_
    refine WA.c rfl rfl g17 (.sub .refl) ?_
    (repeat first|refine WA.s rfl ?_|refine WA.r rfl rfl ?_|refine WA.p rfl ?_)
    refine WA.gF rfl (by show (IntKind.i32.wrap (truthI (decide (a ≤ b)) + truthI (decide (b < a))) != 1) = false; rw [two_t _ _ (by rw [Bool.eq_iff_iff]; simp)]; rfl) ?_
    (repeat first|refine WA.s rfl ?_|refine WA.r rfl rfl ?_|refine WA.p rfl ?_)
    refine WA.c rfl rfl g19 (.sub .refl) ?_
    refine WA.c rfl rfl g16 (.sub .refl) ?_
    (repeat first|refine WA.s rfl ?_|refine WA.r rfl rfl ?_|refine WA.p rfl ?_)
    refine WA.gF rfl (by show (IntKind.i32.wrap (truthI (decide (b ≤ a)) + truthI (decide (a < b))) != 1) = false; rw [two_t _ _ (by rw [Bool.eq_iff_iff]; simp)]; rfl) ?_
    (repeat first|refine WA.s rfl ?_|refine WA.r rfl rfl ?_|refine WA.p rfl ?_)
    refine WA.c rfl rfl g15 (.sub .refl) ?_
    refine WA.nil (l := []) rfl ?_
    (repeat first|refine A.s rfl ?_|refine A.r rfl rfl ?_|refine A.w rfl rfl ?_|refine A.p rfl ?_|refine A.b rfl fun bx=>?_|refine A.t rfl fun bl=>?_)
    refine A.c rfl g14 .refl ?_
    (repeat first|refine A.s rfl ?_|refine A.r rfl rfl ?_|refine A.w rfl rfl ?_|refine A.p rfl ?_|refine A.b rfl fun bx=>?_|refine A.t rfl fun bl=>?_)
    refine A.gF rfl (by show (IntKind.i32.wrap (truthI (a != b) + truthI (a == b)) != 1) = false; rw [two_t (a != b) (a == b) rfl]; rfl) ?_
    (repeat first|refine A.s rfl ?_|refine A.r rfl rfl ?_|refine A.w rfl rfl ?_|refine A.p rfl ?_|refine A.b rfl fun bx=>?_|refine A.t rfl fun bl=>?_)
    refine A.draw 31 [0, 1, 2, 3, 6, 7, 8, 10, 11, 4, 5, 9, 12, 13, 14, 15, 16, 17, 18, 20, 21, 22, 23, 25, 26, 27, 28, 19, 24, 29, 30] noPubs
      [(4, AI32 (band a b)), (5, AI32 (bnot (band a b))), (9, AI32 (bnot a)), (12, AI32 (bnot b)), (13, AI32 (bor (bnot a) (bnot b))), (19, AI32 (bxor a b)), (24, AI32 (bor a b)), (29, AI32 (band a b)), (30, AI32 (bnot (band a b)))] (by kernel_rfl) (by kernel_rfl) ?_
    (repeat first|refine WA.s rfl ?_|refine WA.r rfl rfl ?_|refine WA.p rfl ?_)
    refine WA.c rfl rfl g9 (.sub .refl) ?_
    refine WA.c rfl rfl n1 (.sub .refl) ?_
    refine WA.c rfl rfl n2 (.sub .refl) ?_
    (repeat first|refine WA.s rfl ?_|refine WA.r rfl rfl ?_|refine WA.p rfl ?_)
    refine WA.c rfl rfl n3 (.sub .refl) ?_
    refine WA.c rfl rfl g10n (.sub .refl) ?_
    (repeat first|refine WA.s rfl ?_|refine WA.r rfl rfl ?_|refine WA.p rfl ?_)
    refine WA.gF rfl (by show (bnot (band a b) != bor (bnot a) (bnot b)) = false; rw [morgan_1]; simp) ?_
    (repeat first|refine WA.s rfl ?_|refine WA.r rfl rfl ?_|refine WA.p rfl ?_)
    refine WA.c rfl rfl g11 (.sub .refl) ?_
    refine WA.c rfl rfl g10 (.sub .refl) ?_
    refine WA.c rfl rfl g9 (.sub .refl) ?_
    refine WA.c rfl rfl n1 (.sub .refl) ?_
    refine WA.nil (l := []) rfl ?_
    (repeat first|refine A.s rfl ?_|refine A.r rfl rfl ?_|refine A.w rfl rfl ?_|refine A.p rfl ?_|refine A.b rfl fun bx=>?_|refine A.t rfl fun bl=>?_)
    refine A.c rfl g9n .refl ?_
    (repeat first|refine A.s rfl ?_|refine A.r rfl rfl ?_|refine A.w rfl rfl ?_|refine A.p rfl ?_|refine A.b rfl fun bx=>?_|refine A.t rfl fun bl=>?_)
    refine A.gF rfl (by show (bxor a b != band (bor a b) (bnot (band a b))) = false; rw [← morgan_2]; simp) ?_
    (repeat first|refine A.s rfl ?_|refine A.r rfl rfl ?_|refine A.w rfl rfl ?_|refine A.p rfl ?_|refine A.b rfl fun bx=>?_|refine A.t rfl fun bl=>?_)
    refine A.c rfl a20 .refl ?_
    (repeat first|refine A.s rfl ?_|refine A.r rfl rfl ?_|refine A.w rfl rfl ?_|refine A.p rfl ?_|refine A.b rfl fun bx=>?_|refine A.t rfl fun bl=>?_); refine A.c rfl a21 .refl ?_
    (repeat first|refine A.s rfl ?_|refine A.r rfl rfl ?_|refine A.w rfl rfl ?_|refine A.p rfl ?_|refine A.b rfl fun bx=>?_|refine A.t rfl fun bl=>?_)
    iterate 12 (first|refine A.s rfl ?_|refine A.r rfl rfl ?_|refine A.w rfl rfl ?_|refine A.p rfl ?_|refine A.b rfl fun bx=>?_|refine A.t rfl fun bl=>?_|refine A.step rfl ?_|refine A.v rfl rfl ?_)
    refine A.valE 21 rfl (x' := AB (isT a && isT b)) (ab_eq (by simp only [isT]; cases a == 0 <;> cases a == 1 <;> cases b == 0 <;> cases b == 1 <;> rfl)) ?_
    (repeat first|refine A.s rfl ?_|refine A.r rfl rfl ?_|refine A.w rfl rfl ?_|refine A.p rfl ?_|refine A.b rfl fun bx=>?_|refine A.t rfl fun bl=>?_)
    refine A.gF rfl (by cases isT a && isT b <;> rfl) ?_
    (repeat first|refine A.s rfl ?_|refine A.r rfl rfl ?_|refine A.w rfl rfl ?_|refine A.p rfl ?_|refine A.b rfl fun bx=>?_|refine A.t rfl fun bl=>?_)
    refine A.gF rfl (by cases isT a && isT b <;> rfl) ?_
    (repeat first|refine A.s rfl ?_|refine A.r rfl rfl ?_|refine A.w rfl rfl ?_|refine A.p rfl ?_|refine A.b rfl fun bx=>?_|refine A.t rfl fun bl=>?_)
    refine A.gF rfl (by cases isT a && isT b <;> cases ha1 : a == 1 <;> cases hb1 : b == 1 <;> simp [truthI]) ?_
    (repeat first|refine A.s rfl ?_|refine A.r rfl rfl ?_|refine A.w rfl rfl ?_|refine A.p rfl ?_|refine A.b rfl fun bx=>?_|refine A.t rfl fun bl=>?_)
    refine A.c rfl g14s .refl ?_
    (repeat first|refine A.s rfl ?_|refine A.r rfl rfl ?_|refine A.w rfl rfl ?_|refine A.p rfl ?_|refine A.b rfl fun bx=>?_|refine A.t rfl fun bl=>?_)
    ((fail_if_success (refine A.lit? rfl ?_)); refine A.gS rfl (fun hc => ?_) (fun hc => ?_))
    · have ht : (isT a && isT b) = false := by
        cases h : isT a && isT b with
        | false => rfl
        | true =>
          rw [h] at hc
          exfalso
          rw [if_pos rfl] at hc
          have hp := sum_two h
          simp only [Option.getD_some, hp] at hc
          simp at hc
      (repeat first|refine A.s rfl ?_|refine A.r rfl rfl ?_|refine A.w rfl rfl ?_|refine A.p rfl ?_|refine A.b rfl fun bx=>?_|refine A.t rfl fun bl=>?_)
      refine A.gF rfl ht ?_
      ((repeat first|refine A.s rfl ?_|refine A.r rfl rfl ?_|refine A.w rfl rfl ?_|refine A.p rfl ?_|refine A.b rfl fun bx=>?_|refine A.t rfl fun bl=>?_); refine A.c rfl (awake_p m) .refl ?_; (repeat first|refine A.s rfl ?_|refine A.r rfl rfl ?_|refine A.w rfl rfl ?_|refine A.p rfl ?_|refine A.b rfl fun bx=>?_|refine A.t rfl fun bl=>?_); refine A.ret1 (Λ' := []) rfl rfl rfl (List.nil_sublist _) ⟨?_, rfl⟩; exact .refl)
    · ((repeat first|refine A.s rfl ?_|refine A.r rfl rfl ?_|refine A.w rfl rfl ?_|refine A.p rfl ?_|refine A.b rfl fun bx=>?_|refine A.t rfl fun bl=>?_); refine A.c rfl (awake_p m) .refl ?_; (repeat first|refine A.s rfl ?_|refine A.r rfl rfl ?_|refine A.w rfl rfl ?_|refine A.p rfl ?_|refine A.b rfl fun bx=>?_|refine A.t rfl fun bl=>?_); refine A.ret1 (Λ' := []) rfl rfl rfl (List.nil_sublist _) ⟨?_, rfl⟩; exact .refl)
end Go.Proofs.Ytlnbmocgnkjlfaa
