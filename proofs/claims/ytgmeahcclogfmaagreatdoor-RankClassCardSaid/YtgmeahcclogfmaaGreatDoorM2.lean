/-
  Texts Q16e Q16f Q16g Q16h Q16i, in one. Conditions: as each theorem says.
-/
import Derived.Test.YtgmeahcclogfmaaGreatDoorM1
/-!
  Layer 16: what an expression fits, by the program.
-/
namespace Go.Proofs.YtgmeahcclogfmaaGreatDoor
open Go Go.Tp
set_option linter.unusedVariables false
set_option linter.unusedSimpArgs false
set_option maxRecDepth 100000
set_option maxHeartbeats 4000000
abbrev chsA (ch : List Int) : AV := .sl 1 (ch.map AU8) none
abbrev ckA (l : List KV) (ch : List Int) (x : Nat → AV) (lf : Int) : AV := .ag [varsA l, chsA ch, x 0, x 1, x 2, x 3, x 4, x 5, x 6, x 7, x 8, AI lf]
abbrev ckP (l : List KV) (ch : List Int) (x : Nat → AV) (lf : Int) : AV := .pe 12 (ckA l ch x lf)
def VarsOk (l : List KV) : Prop := ∀ y, y ∈ l → 1 ≤ y.kind ∧ y.kind ≤ 3
theorem kF_eq {f g : FK} (h : ∀ k, f k = g k) : kF f = kF g := by rw [show f = g from funext h]
theorem kF_none : kF (fun _ => false) = 0 := rfl
theorem beq_c (a b : Int) : (a == b) = (b == a) := by rw [Bool.eq_iff_iff]; simp; exact eq_comm
theorem of12 : ofI [1, 2] = 6 := by kernel_rfl
theorem kinds_p (l : List KV) (ch : List Int) (x : Nat → AV) (lf : Int) (hl : l.length ≤ 281474976710656) (hv : VarsOk l) : ∀ (N : Nat) (e : KE), ht e ≤ N → fine e = true → Pure Tryz.prog gs0 88 [ckP l ch x lf, encK e] (AU64 (kF (fitsM l e)))
  | 0, e, hn, _ => by rw [ht_eq] at hn; omega
  | N + 1, e, hn, hf => by
    have hlen : ((l.map encV).length : Int) = l.length := by rw [List.length_map]
    rcases fine_cases hf with ⟨n, rfl⟩ | ⟨v, h1, h2, rfl⟩ | ⟨v, a, h1, h2, h3, rfl⟩ | ⟨o, a, h1, h2, h3, rfl⟩ | ⟨o, a, b, h1, h2, h3, h4, rfl⟩ | ⟨t, a, h1, h2, h3, rfl⟩
    · have hk := knumber_p n
      simp only [encK, encKl]
      refine Pure.of (S := tt) (fn := Tryz.f88) (n := 160) tt_ok Tryz.func88 rfl rfl rfl rfl fun w0 h0 F hgs => ?_
      (repeat first|refine A.s rfl ?_|refine A.r rfl rfl ?_|refine A.b rfl fun bx=>?_)
      refine A.loop1 ?_
      (repeat first|refine A.s rfl ?_|refine A.r rfl rfl ?_); refine A.c rfl hk .refl ?_; (repeat refine A.s rfl ?_); refine A.ret1 (Λ' := []) rfl rfl rfl (List.nil_sublist _) ⟨?_, rfl⟩
      refine Sb.eq (au64_eq (kF_eq fun k => ?_))
      simp [numF, fitsM, fitsL, fitC]
    · simp only [encK, encKl]
      by_cases hvl : v < l.length
      · refine Exists.elim (at_ex h1 hvl) fun y hy => ?_
        have hyk := hv y (List.mem_of_getElem? hy)
        have hw := when_p (y.dim == 0) y.kind hyk
        refine Pure.of (S := tt) (fn := Tryz.f88) (n := 160) tt_ok Tryz.func88 rfl rfl rfl rfl fun w0 h0 F hgs => ?_
        (repeat first|refine A.s rfl ?_|refine A.r rfl rfl ?_|refine A.b rfl fun bx=>?_)
        refine A.loop1 ?_
        (repeat first|refine A.s rfl ?_|refine A.r rfl rfl ?_)
        refine A.draw 8 [0, 1, 2, 3, 4, 5, 6, 7] noPubs [] (by kernel_rfl) (by kernel_rfl) ?_
        (repeat first|refine WA.s rfl ?_|refine WA.r rfl rfl ?_)
        refine WA.nil (l := []) rfl ?_
        (repeat refine A.s rfl ?_)
        refine A.valE 49 rfl (x' := AB true) (ab_eq (by rw [hlen]; simp [hvl])) ?_
        (repeat refine A.s rfl ?_)
        refine A.draw 22 [0, 1, 2, 3, 4, 5, 6, 7, 8, 9, 10, 11, 12, 13, 14, 15, 16, 17, 18, 19, 20, 21] noPubs [] (by kernel_rfl) (by kernel_rfl) ?_
        (repeat first|refine WA.s rfl ?_|refine WA.r rfl rfl ?_)
        refine WA.x rfl h1 (map_at hy) rfl rfl ?_
        (repeat first|refine WA.s rfl ?_|refine WA.r rfl rfl ?_)
        refine WA.x rfl h1 (map_at hy) rfl rfl ?_
        (repeat refine WA.s rfl ?_)
        refine WA.nil (l := []) rfl ?_
        skip
        refine A.c rfl hw .refl ?_
        (repeat refine A.s rfl ?_); refine A.ret1 (Λ' := []) rfl rfl rfl (List.nil_sublist _) ⟨?_, rfl⟩; refine Sb.eq (au64_eq (kF_eq fun k => ?_)); simp [isF, fitsM, fitsL, fitC, hy, beq_c k]
      · refine Pure.of (S := tt) (fn := Tryz.f88) (n := 160) tt_ok Tryz.func88 rfl rfl rfl rfl fun w0 h0 F hgs => ?_
        (repeat first|refine A.s rfl ?_|refine A.r rfl rfl ?_|refine A.b rfl fun bx=>?_)
        refine A.loop1 ?_
        (repeat first|refine A.s rfl ?_|refine A.r rfl rfl ?_)
        refine A.draw 8 [0, 1, 2, 3, 4, 5, 6, 7] noPubs [] (by kernel_rfl) (by kernel_rfl) ?_
        (repeat first|refine WA.s rfl ?_|refine WA.r rfl rfl ?_)
        refine WA.nil (l := []) rfl ?_
        (repeat refine A.s rfl ?_)
        refine A.valE 49 rfl (x' := AB false) (ab_eq (by rw [hlen]; simp; omega)) ?_
        (repeat refine A.s rfl ?_); refine A.ret1 (Λ' := []) rfl rfl rfl (List.nil_sublist _) ⟨?_, rfl⟩; refine Sb.eq (au64_eq ?_); rw [← kF_none]; exact kF_eq fun k => by simp [fitsM, fitsL, fitC, at_none (l := l) (i := v) (by omega)]
    · rw [ht, htl, htl] at hn
      have ea := encK_eq a
      have iha := kinds_p l ch x lf hl hv N a (by omega) h3
      rw [ea] at iha
      simp only [encK, encKl]
      by_cases hvl : v < l.length
      · refine Exists.elim (at_ex h1 hvl) fun y hy => ?_
        have hyk := hv y (List.mem_of_getElem? hy)
        by_cases hd : 0 < y.dim
        · have hw := when_p (fitsM l a 1) y.kind hyk
          have hh := has_p (kF (fitsM l a)) 1 (by decide)
          rw [has_1] at hh
          refine Pure.of (S := tt) (fn := Tryz.f88) (n := 160) tt_ok Tryz.func88 rfl rfl rfl rfl fun w0 h0 F hgs => ?_
          (repeat first|refine A.s rfl ?_|refine A.r rfl rfl ?_|refine A.b rfl fun bx=>?_)
          refine A.loop1 ?_
          (repeat refine A.s rfl ?_)
          refine A.x rfl (by decide) rfl ea rfl ?_
          (repeat first|refine A.s rfl ?_|refine A.r rfl rfl ?_|refine A.w rfl rfl ?_|refine A.b rfl fun bx=>?_)
          refine A.c rfl iha .refl ?_
          (repeat refine A.t rfl fun bl=>?_)
          refine A.append0 rfl rfl rfl rfl rfl rfl rfl rfl rfl rfl rfl rfl rfl rfl (by show (0 + 1) * 1 ≤ _; decide) fun z => ?_
          (repeat refine A.s rfl ?_)
          refine A.valE 27 rfl (x' := AI 0) rfl ?_
          refine A.x rfl (by decide) rfl rfl rfl ?_
          (repeat refine A.s rfl ?_)
          refine A.valE 6 rfl (x' := AU64 (kF (fitsM l a))) (au64_eq (kS_ones _ _ _)) ?_
          skip
          refine A.again ?_
          (repeat first|refine A.s rfl ?_|refine A.r rfl rfl ?_)
          refine A.draw 8 [0, 1, 2, 3, 4, 5, 6, 7] noPubs [] (by kernel_rfl) (by kernel_rfl) ?_
          (repeat first|refine WA.s rfl ?_|refine WA.r rfl rfl ?_)
          refine WA.nil (l := []) rfl ?_
          (repeat refine A.s rfl ?_)
          refine A.valE 83 rfl (x' := AB true) (ab_eq (by rw [hlen]; simp [hvl])) ?_
          (repeat refine A.s rfl ?_)
          refine A.draw 26 [0, 1, 2, 3, 4, 5, 6, 7, 8, 9, 10, 11, 12, 13, 16, 17, 18, 19, 20, 21, 22, 23, 24, 25, 14, 15] noPubs [(14, AB (fitsM l a 1))] (by kernel_rfl) (by kernel_rfl) ?_
          (repeat first|refine WA.s rfl ?_|refine WA.r rfl rfl ?_)
          refine WA.x rfl h1 (map_at hy) rfl rfl ?_
          (repeat refine WA.s rfl ?_)
          refine WA.valE 96 rfl (x' := AB true) (ab_eq (by simpa using hd)) ?_
          (repeat first|refine WA.s rfl ?_|refine WA.r rfl rfl ?_)
          refine WA.x rfl h1 (map_at hy) rfl rfl ?_
          (repeat refine WA.s rfl ?_)
          refine WA.c rfl rfl hh (.sub .refl) ?_
          (repeat refine WA.s rfl ?_)
          refine WA.nil (l := []) rfl ?_
          skip
          refine A.c rfl hw .refl ?_
          (repeat refine A.s rfl ?_); refine A.ret1 (Λ' := []) rfl rfl rfl (List.nil_sublist _) ⟨?_, rfl⟩; refine Sb.eq (au64_eq (kF_eq fun k => ?_)); simp [isF, fitsM, fitsL, fitC, hy, beq_c k, hd]; exact Bool.and_comm _ _
        · have hw := when_p false y.kind hyk
          refine Pure.of (S := tt) (fn := Tryz.f88) (n := 160) tt_ok Tryz.func88 rfl rfl rfl rfl fun w0 h0 F hgs => ?_
          (repeat first|refine A.s rfl ?_|refine A.r rfl rfl ?_|refine A.b rfl fun bx=>?_)
          refine A.loop1 ?_
          (repeat refine A.s rfl ?_)
          refine A.x rfl (by decide) rfl ea rfl ?_
          (repeat first|refine A.s rfl ?_|refine A.r rfl rfl ?_|refine A.w rfl rfl ?_|refine A.b rfl fun bx=>?_)
          refine A.c rfl iha .refl ?_
          (repeat refine A.t rfl fun bl=>?_)
          refine A.append0 rfl rfl rfl rfl rfl rfl rfl rfl rfl rfl rfl rfl rfl rfl (by show (0 + 1) * 1 ≤ _; decide) fun z => ?_
          (repeat refine A.s rfl ?_)
          refine A.valE 27 rfl (x' := AI 0) rfl ?_
          refine A.x rfl (by decide) rfl rfl rfl ?_
          (repeat refine A.s rfl ?_)
          refine A.valE 6 rfl (x' := AU64 (kF (fitsM l a))) (au64_eq (kS_ones _ _ _)) ?_
          skip
          refine A.again ?_
          (repeat first|refine A.s rfl ?_|refine A.r rfl rfl ?_)
          refine A.draw 8 [0, 1, 2, 3, 4, 5, 6, 7] noPubs [] (by kernel_rfl) (by kernel_rfl) ?_
          (repeat first|refine WA.s rfl ?_|refine WA.r rfl rfl ?_)
          refine WA.nil (l := []) rfl ?_
          (repeat refine A.s rfl ?_)
          refine A.valE 83 rfl (x' := AB true) (ab_eq (by rw [hlen]; simp [hvl])) ?_
          (repeat refine A.s rfl ?_)
          refine A.draw 26 [0, 1, 2, 3, 4, 5, 6, 7, 8, 9, 10, 11, 12, 13, 16, 17, 18, 19, 20, 21, 22, 23, 24, 25, 14, 15] noPubs [(14, AB false)] (by kernel_rfl) (by kernel_rfl) ?_
          (repeat first|refine WA.s rfl ?_|refine WA.r rfl rfl ?_)
          refine WA.x rfl h1 (map_at hy) rfl rfl ?_
          (repeat refine WA.s rfl ?_)
          refine WA.valE 96 rfl (x' := AB false) (ab_eq (by simpa using hd)) ?_
          (repeat first|refine WA.s rfl ?_|refine WA.r rfl rfl ?_)
          refine WA.x rfl h1 (map_at hy) rfl rfl ?_
          (repeat refine WA.s rfl ?_)
          refine WA.nil (l := []) rfl ?_
          skip
          refine A.c rfl hw .refl ?_
          (repeat refine A.s rfl ?_); refine A.ret1 (Λ' := []) rfl rfl rfl (List.nil_sublist _) ⟨?_, rfl⟩; refine Sb.eq (au64_eq (kF_eq fun k => ?_)); simp [isF, fitsM, fitsL, fitC, hy, hd]
      · refine Pure.of (S := tt) (fn := Tryz.f88) (n := 160) tt_ok Tryz.func88 rfl rfl rfl rfl fun w0 h0 F hgs => ?_
        (repeat first|refine A.s rfl ?_|refine A.r rfl rfl ?_|refine A.b rfl fun bx=>?_)
        refine A.loop1 ?_
        (repeat refine A.s rfl ?_)
        refine A.x rfl (by decide) rfl ea rfl ?_
        (repeat first|refine A.s rfl ?_|refine A.r rfl rfl ?_|refine A.w rfl rfl ?_|refine A.b rfl fun bx=>?_)
        refine A.c rfl iha .refl ?_
        (repeat refine A.t rfl fun bl=>?_)
        refine A.append0 rfl rfl rfl rfl rfl rfl rfl rfl rfl rfl rfl rfl rfl rfl (by show (0 + 1) * 1 ≤ _; decide) fun z => ?_
        (repeat refine A.s rfl ?_)
        refine A.valE 27 rfl (x' := AI 0) rfl ?_
        refine A.x rfl (by decide) rfl rfl rfl ?_
        (repeat refine A.s rfl ?_)
        refine A.valE 6 rfl (x' := AU64 (kF (fitsM l a))) (au64_eq (kS_ones _ _ _)) ?_
        skip
        refine A.again ?_
        (repeat first|refine A.s rfl ?_|refine A.r rfl rfl ?_)
        refine A.draw 8 [0, 1, 2, 3, 4, 5, 6, 7] noPubs [] (by kernel_rfl) (by kernel_rfl) ?_
        (repeat first|refine WA.s rfl ?_|refine WA.r rfl rfl ?_)
        refine WA.nil (l := []) rfl ?_
        (repeat refine A.s rfl ?_)
        refine A.valE 83 rfl (x' := AB false) (ab_eq (by rw [hlen]; simp; omega)) ?_
        (repeat refine A.s rfl ?_); refine A.ret1 (Λ' := []) rfl rfl rfl (List.nil_sublist _) ⟨?_, rfl⟩; refine Sb.eq (au64_eq ?_); rw [← kF_none]; exact kF_eq fun k => by simp [fitsM, fitsL, fitC, at_none (l := l) (i := v) (by omega)]
    · rw [ht, htl, htl] at hn
      have ea := encK_eq a
      have iha := kinds_p l ch x lf hl hv N a (by omega) h3
      rw [ea] at iha
      simp only [encK, encKl]
      by_cases ho : o = 26
      · subst ho
        have hw := when_p (fitsM l a 3) 3 (by decide)
        have hh := has_p (kF (fitsM l a)) 3 (by decide)
        rw [has_3] at hh
        refine Pure.of (S := tt) (fn := Tryz.f88) (n := 160) tt_ok Tryz.func88 rfl rfl rfl rfl fun w0 h0 F hgs => ?_
        (repeat first|refine A.s rfl ?_|refine A.r rfl rfl ?_|refine A.b rfl fun bx=>?_)
        refine A.loop1 ?_
        (repeat refine A.s rfl ?_)
        refine A.x rfl (by decide) rfl ea rfl ?_
        (repeat first|refine A.s rfl ?_|refine A.r rfl rfl ?_|refine A.w rfl rfl ?_|refine A.b rfl fun bx=>?_)
        refine A.c rfl iha .refl ?_
        (repeat refine A.t rfl fun bl=>?_)
        refine A.append0 rfl rfl rfl rfl rfl rfl rfl rfl rfl rfl rfl rfl rfl rfl (by show (0 + 1) * 1 ≤ _; decide) fun z => ?_
        (repeat refine A.s rfl ?_)
        refine A.valE 27 rfl (x' := AI 0) rfl ?_
        refine A.x rfl (by decide) rfl rfl rfl ?_
        (repeat refine A.s rfl ?_)
        refine A.valE 6 rfl (x' := AU64 (kF (fitsM l a))) (au64_eq (kS_ones _ _ _)) ?_
        skip
        refine A.again ?_
        (repeat first|refine A.s rfl ?_|refine A.r rfl rfl ?_); refine A.c rfl hh .refl ?_
        skip; refine A.c rfl hw .refl ?_
        (repeat refine A.s rfl ?_); refine A.ret1 (Λ' := []) rfl rfl rfl (List.nil_sublist _) ⟨?_, rfl⟩; refine Sb.eq (au64_eq (kF_eq fun k => ?_)); simp [isF, fitsM, fitsL, fitC]; exact Bool.and_comm _ _
      · have hw := when_p (fitsM l a 1) 1 (by decide)
        have hh := has_p (kF (fitsM l a)) 1 (by decide)
        rw [has_1] at hh
        refine Pure.of (S := tt) (fn := Tryz.f88) (n := 160) tt_ok Tryz.func88 rfl rfl rfl rfl fun w0 h0 F hgs => ?_
        (repeat first|refine A.s rfl ?_|refine A.r rfl rfl ?_|refine A.b rfl fun bx=>?_)
        refine A.loop1 ?_
        (repeat refine A.s rfl ?_)
        refine A.x rfl (by decide) rfl ea rfl ?_
        (repeat first|refine A.s rfl ?_|refine A.r rfl rfl ?_|refine A.w rfl rfl ?_|refine A.b rfl fun bx=>?_)
        refine A.c rfl iha .refl ?_
        (repeat refine A.t rfl fun bl=>?_)
        refine A.append0 rfl rfl rfl rfl rfl rfl rfl rfl rfl rfl rfl rfl rfl rfl (by show (0 + 1) * 1 ≤ _; decide) fun z => ?_
        (repeat refine A.s rfl ?_)
        refine A.valE 27 rfl (x' := AI 0) rfl ?_
        refine A.x rfl (by decide) rfl rfl rfl ?_
        (repeat refine A.s rfl ?_)
        refine A.valE 6 rfl (x' := AU64 (kF (fitsM l a))) (au64_eq (kS_ones _ _ _)) ?_
        skip
        refine A.again ?_
        (repeat (first | first|refine A.s rfl ?_|refine A.r rfl rfl ?_|refine A.w rfl rfl ?_|refine A.p rfl ?_|refine A.b rfl fun bx=>?_|refine A.t rfl fun bl=>?_ | refine A.cond rfl (fun h => (by simp at h; omega)) (fun _ => ?_) | first|refine A.step rfl ?_|refine A.v rfl rfl ?_))
        refine A.c rfl hh .refl ?_
        skip; refine A.c rfl hw .refl ?_
        (repeat refine A.s rfl ?_); refine A.ret1 (Λ' := []) rfl rfl rfl (List.nil_sublist _) ⟨?_, rfl⟩; refine Sb.eq (au64_eq (kF_eq fun k => ?_)); simp [isF, fitsM, fitsL, fitC, ho]; exact Bool.and_comm _ _
    · rw [ht, htl, htl, htl] at hn
      have ea := encK_eq a
      have eb := encK_eq b
      have iha := kinds_p l ch x lf hl hv N a (by omega) h3
      have ihb := kinds_p l ch x lf hl hv N b (by omega) h4
      rw [ea] at iha
      rw [eb] at ihb
      simp only [encK, encKl]
      by_cases o14 : o = 14
      · subst o14
        have hw := when_p ((fitsM l a 1 && fitsM l b 1) || (fitsM l a 2 && fitsM l b 2) || (fitsM l a 3 && fitsM l b 3)) 3 (by decide)
        refine Pure.of (S := tt) (fn := Tryz.f88) (n := 160) tt_ok Tryz.func88 rfl rfl rfl rfl fun w0 h0 F hgs => ?_
        (repeat first|refine A.s rfl ?_|refine A.r rfl rfl ?_|refine A.b rfl fun bx=>?_)
        refine A.loop1 ?_
        (repeat refine A.s rfl ?_)
        refine A.x rfl (by decide) rfl ea rfl ?_
        (repeat first|refine A.s rfl ?_|refine A.r rfl rfl ?_|refine A.w rfl rfl ?_|refine A.b rfl fun bx=>?_)
        refine A.c rfl iha .refl ?_
        (repeat refine A.t rfl fun bl=>?_)
        refine A.append0 rfl rfl rfl rfl rfl rfl rfl rfl rfl rfl rfl rfl rfl rfl (by show (0 + 1) * 1 ≤ _; decide) fun z => ?_
        (repeat refine A.s rfl ?_)
        refine A.valE 27 rfl (x' := AI 0) rfl ?_
        refine A.x rfl (by decide) rfl rfl rfl ?_
        (repeat refine A.s rfl ?_)
        refine A.valE 6 rfl (x' := AU64 (kF (fitsM l a))) (au64_eq (kS_ones _ _ _)) ?_
        skip
        refine A.again ?_
        (repeat refine A.s rfl ?_)
        refine A.x rfl (by decide) rfl eb rfl ?_
        (repeat first|refine A.s rfl ?_|refine A.r rfl rfl ?_|refine A.w rfl rfl ?_|refine A.b rfl fun bx=>?_)
        refine A.c rfl ihb .refl ?_
        (repeat refine A.t rfl fun bl=>?_)
        refine A.append rfl rfl rfl rfl rfl rfl rfl rfl rfl rfl rfl rfl rfl rfl (by show (1 + 1) * 1 ≤ _; decide) fun z' => ?_
        (repeat refine A.s rfl ?_)
        refine A.valE 27 rfl (x' := AI 1) rfl ?_
        refine A.x rfl (by decide) rfl rfl rfl ?_
        (repeat refine A.s rfl ?_)
        refine A.valE 6 rfl (x' := AU64 (kS (fitsM l a 1 && fitsM l b 1) (fitsM l a 2 && fitsM l b 2) (fitsM l a 3 && fitsM l b 3))) (au64_eq (kS_and _ _ _ _ _ _)) ?_
        skip
        refine A.again ?_
        (repeat first|refine A.s rfl ?_|refine A.r rfl rfl ?_)
        refine A.valE 128 rfl (x' := AB ((fitsM l a 1 && fitsM l b 1) || (fitsM l a 2 && fitsM l b 2) || (fitsM l a 3 && fitsM l b 3))) (ab_eq (kS_ne _ _ _)) ?_
        refine A.c rfl hw .refl ?_
        (repeat refine A.s rfl ?_); refine A.ret1 (Λ' := []) rfl rfl rfl (List.nil_sublist _) ⟨?_, rfl⟩; refine Sb.eq (au64_eq (kF_eq fun k => ?_)); simp only [isF, fitsM, fitsL, fitC]; by_cases hk : k = 3 <;> simp [hk]
      by_cases o15 : o = 15
      · subst o15
        have hw := when_p ((fitsM l a 1 && fitsM l b 1) || (fitsM l a 2 && fitsM l b 2) || (fitsM l a 3 && fitsM l b 3)) 3 (by decide)
        refine Pure.of (S := tt) (fn := Tryz.f88) (n := 160) tt_ok Tryz.func88 rfl rfl rfl rfl fun w0 h0 F hgs => ?_
        (repeat first|refine A.s rfl ?_|refine A.r rfl rfl ?_|refine A.b rfl fun bx=>?_)
        refine A.loop1 ?_
        (repeat refine A.s rfl ?_)
        refine A.x rfl (by decide) rfl ea rfl ?_
        (repeat first|refine A.s rfl ?_|refine A.r rfl rfl ?_|refine A.w rfl rfl ?_|refine A.b rfl fun bx=>?_)
        refine A.c rfl iha .refl ?_
        (repeat refine A.t rfl fun bl=>?_)
        refine A.append0 rfl rfl rfl rfl rfl rfl rfl rfl rfl rfl rfl rfl rfl rfl (by show (0 + 1) * 1 ≤ _; decide) fun z => ?_
        (repeat refine A.s rfl ?_)
        refine A.valE 27 rfl (x' := AI 0) rfl ?_
        refine A.x rfl (by decide) rfl rfl rfl ?_
        (repeat refine A.s rfl ?_)
        refine A.valE 6 rfl (x' := AU64 (kF (fitsM l a))) (au64_eq (kS_ones _ _ _)) ?_
        skip
        refine A.again ?_
        (repeat refine A.s rfl ?_)
        refine A.x rfl (by decide) rfl eb rfl ?_
        (repeat first|refine A.s rfl ?_|refine A.r rfl rfl ?_|refine A.w rfl rfl ?_|refine A.b rfl fun bx=>?_)
        refine A.c rfl ihb .refl ?_
        (repeat refine A.t rfl fun bl=>?_)
        refine A.append rfl rfl rfl rfl rfl rfl rfl rfl rfl rfl rfl rfl rfl rfl (by show (1 + 1) * 1 ≤ _; decide) fun z' => ?_
        (repeat refine A.s rfl ?_)
        refine A.valE 27 rfl (x' := AI 1) rfl ?_
        refine A.x rfl (by decide) rfl rfl rfl ?_
        (repeat refine A.s rfl ?_)
        refine A.valE 6 rfl (x' := AU64 (kS (fitsM l a 1 && fitsM l b 1) (fitsM l a 2 && fitsM l b 2) (fitsM l a 3 && fitsM l b 3))) (au64_eq (kS_and _ _ _ _ _ _)) ?_
        skip
        refine A.again ?_
        (repeat first|refine A.s rfl ?_|refine A.r rfl rfl ?_)
        refine A.valE 128 rfl (x' := AB ((fitsM l a 1 && fitsM l b 1) || (fitsM l a 2 && fitsM l b 2) || (fitsM l a 3 && fitsM l b 3))) (ab_eq (kS_ne _ _ _)) ?_
        refine A.c rfl hw .refl ?_
        (repeat refine A.s rfl ?_); refine A.ret1 (Λ' := []) rfl rfl rfl (List.nil_sublist _) ⟨?_, rfl⟩; refine Sb.eq (au64_eq (kF_eq fun k => ?_)); simp only [isF, fitsM, fitsL, fitC]; by_cases hk : k = 3 <;> simp [hk]
      by_cases o16 : o = 16
      · subst o16
        have hw := when_p ((fitsM l a 1 && fitsM l b 1) || (fitsM l a 2 && fitsM l b 2)) 3 (by decide)
        have ho2 := of_p [1, 2] (by decide) (by decide)
        rw [of12] at ho2
        refine Pure.of (S := tt) (fn := Tryz.f88) (n := 160) tt_ok Tryz.func88 rfl rfl rfl rfl fun w0 h0 F hgs => ?_
        (repeat first|refine A.s rfl ?_|refine A.r rfl rfl ?_|refine A.b rfl fun bx=>?_)
        refine A.loop1 ?_
        (repeat refine A.s rfl ?_)
        refine A.x rfl (by decide) rfl ea rfl ?_
        (repeat first|refine A.s rfl ?_|refine A.r rfl rfl ?_|refine A.w rfl rfl ?_|refine A.b rfl fun bx=>?_)
        refine A.c rfl iha .refl ?_
        (repeat refine A.t rfl fun bl=>?_)
        refine A.append0 rfl rfl rfl rfl rfl rfl rfl rfl rfl rfl rfl rfl rfl rfl (by show (0 + 1) * 1 ≤ _; decide) fun z => ?_
        (repeat refine A.s rfl ?_)
        refine A.valE 27 rfl (x' := AI 0) rfl ?_
        refine A.x rfl (by decide) rfl rfl rfl ?_
        (repeat refine A.s rfl ?_)
        refine A.valE 6 rfl (x' := AU64 (kF (fitsM l a))) (au64_eq (kS_ones _ _ _)) ?_
        skip
        refine A.again ?_
        (repeat refine A.s rfl ?_)
        refine A.x rfl (by decide) rfl eb rfl ?_
        (repeat first|refine A.s rfl ?_|refine A.r rfl rfl ?_|refine A.w rfl rfl ?_|refine A.b rfl fun bx=>?_)
        refine A.c rfl ihb .refl ?_
        (repeat refine A.t rfl fun bl=>?_)
        refine A.append rfl rfl rfl rfl rfl rfl rfl rfl rfl rfl rfl rfl rfl rfl (by show (1 + 1) * 1 ≤ _; decide) fun z' => ?_
        (repeat refine A.s rfl ?_)
        refine A.valE 27 rfl (x' := AI 1) rfl ?_
        refine A.x rfl (by decide) rfl rfl rfl ?_
        (repeat refine A.s rfl ?_)
        refine A.valE 6 rfl (x' := AU64 (kS (fitsM l a 1 && fitsM l b 1) (fitsM l a 2 && fitsM l b 2) (fitsM l a 3 && fitsM l b 3))) (au64_eq (kS_and _ _ _ _ _ _)) ?_
        skip
        refine A.again ?_
        (repeat first|refine A.s rfl ?_|refine A.r rfl rfl ?_|refine A.t rfl fun bl=>?_)
        refine A.c rfl ho2 (by repeat (first | exact Sb.refl | exact SbL.refl | refine SbL.cons ?_ ?_ | exact Sb.nil | exact Sb.own1 | refine Sb.own ?_ | refine Sb.ag ?_ | refine Sb.tp ?_)) ?_
        (repeat refine A.s rfl ?_)
        refine A.valE 140 rfl (x' := AB ((fitsM l a 1 && fitsM l b 1) || (fitsM l a 2 && fitsM l b 2))) (ab_eq (kS_6 _ _ _)) ?_
        refine A.c rfl hw .refl ?_
        (repeat refine A.s rfl ?_); refine A.ret1 (Λ' := []) rfl rfl rfl (List.nil_sublist _) ⟨?_, rfl⟩; refine Sb.eq (au64_eq (kF_eq fun k => ?_)); simp only [isF, fitsM, fitsL, fitC]; by_cases hk : k = 3 <;> simp [hk]
      by_cases o17 : o = 17
      · subst o17
        have hw := when_p ((fitsM l a 1 && fitsM l b 1) || (fitsM l a 2 && fitsM l b 2)) 3 (by decide)
        have ho2 := of_p [1, 2] (by decide) (by decide)
        rw [of12] at ho2
        refine Pure.of (S := tt) (fn := Tryz.f88) (n := 160) tt_ok Tryz.func88 rfl rfl rfl rfl fun w0 h0 F hgs => ?_
        (repeat first|refine A.s rfl ?_|refine A.r rfl rfl ?_|refine A.b rfl fun bx=>?_)
        refine A.loop1 ?_
        (repeat refine A.s rfl ?_)
        refine A.x rfl (by decide) rfl ea rfl ?_
        (repeat first|refine A.s rfl ?_|refine A.r rfl rfl ?_|refine A.w rfl rfl ?_|refine A.b rfl fun bx=>?_)
        refine A.c rfl iha .refl ?_
        (repeat refine A.t rfl fun bl=>?_)
        refine A.append0 rfl rfl rfl rfl rfl rfl rfl rfl rfl rfl rfl rfl rfl rfl (by show (0 + 1) * 1 ≤ _; decide) fun z => ?_
        (repeat refine A.s rfl ?_)
        refine A.valE 27 rfl (x' := AI 0) rfl ?_
        refine A.x rfl (by decide) rfl rfl rfl ?_
        (repeat refine A.s rfl ?_)
        refine A.valE 6 rfl (x' := AU64 (kF (fitsM l a))) (au64_eq (kS_ones _ _ _)) ?_
        skip
        refine A.again ?_
        (repeat refine A.s rfl ?_)
        refine A.x rfl (by decide) rfl eb rfl ?_
        (repeat first|refine A.s rfl ?_|refine A.r rfl rfl ?_|refine A.w rfl rfl ?_|refine A.b rfl fun bx=>?_)
        refine A.c rfl ihb .refl ?_
        (repeat refine A.t rfl fun bl=>?_)
        refine A.append rfl rfl rfl rfl rfl rfl rfl rfl rfl rfl rfl rfl rfl rfl (by show (1 + 1) * 1 ≤ _; decide) fun z' => ?_
        (repeat refine A.s rfl ?_)
        refine A.valE 27 rfl (x' := AI 1) rfl ?_
        refine A.x rfl (by decide) rfl rfl rfl ?_
        (repeat refine A.s rfl ?_)
        refine A.valE 6 rfl (x' := AU64 (kS (fitsM l a 1 && fitsM l b 1) (fitsM l a 2 && fitsM l b 2) (fitsM l a 3 && fitsM l b 3))) (au64_eq (kS_and _ _ _ _ _ _)) ?_
        skip
        refine A.again ?_
        (repeat first|refine A.s rfl ?_|refine A.r rfl rfl ?_|refine A.t rfl fun bl=>?_)
        refine A.c rfl ho2 (by repeat (first | exact Sb.refl | exact SbL.refl | refine SbL.cons ?_ ?_ | exact Sb.nil | exact Sb.own1 | refine Sb.own ?_ | refine Sb.ag ?_ | refine Sb.tp ?_)) ?_
        (repeat refine A.s rfl ?_)
        refine A.valE 140 rfl (x' := AB ((fitsM l a 1 && fitsM l b 1) || (fitsM l a 2 && fitsM l b 2))) (ab_eq (kS_6 _ _ _)) ?_
        refine A.c rfl hw .refl ?_
        (repeat refine A.s rfl ?_); refine A.ret1 (Λ' := []) rfl rfl rfl (List.nil_sublist _) ⟨?_, rfl⟩; refine Sb.eq (au64_eq (kF_eq fun k => ?_)); simp only [isF, fitsM, fitsL, fitC]; by_cases hk : k = 3 <;> simp [hk]
      by_cases o18 : o = 18
      · subst o18
        have hw := when_p ((fitsM l a 1 && fitsM l b 1) || (fitsM l a 2 && fitsM l b 2)) 3 (by decide)
        have ho2 := of_p [1, 2] (by decide) (by decide)
        rw [of12] at ho2
        refine Pure.of (S := tt) (fn := Tryz.f88) (n := 160) tt_ok Tryz.func88 rfl rfl rfl rfl fun w0 h0 F hgs => ?_
        (repeat first|refine A.s rfl ?_|refine A.r rfl rfl ?_|refine A.b rfl fun bx=>?_)
        refine A.loop1 ?_
        (repeat refine A.s rfl ?_)
        refine A.x rfl (by decide) rfl ea rfl ?_
        (repeat first|refine A.s rfl ?_|refine A.r rfl rfl ?_|refine A.w rfl rfl ?_|refine A.b rfl fun bx=>?_)
        refine A.c rfl iha .refl ?_
        (repeat refine A.t rfl fun bl=>?_)
        refine A.append0 rfl rfl rfl rfl rfl rfl rfl rfl rfl rfl rfl rfl rfl rfl (by show (0 + 1) * 1 ≤ _; decide) fun z => ?_
        (repeat refine A.s rfl ?_)
        refine A.valE 27 rfl (x' := AI 0) rfl ?_
        refine A.x rfl (by decide) rfl rfl rfl ?_
        (repeat refine A.s rfl ?_)
        refine A.valE 6 rfl (x' := AU64 (kF (fitsM l a))) (au64_eq (kS_ones _ _ _)) ?_
        skip
        refine A.again ?_
        (repeat refine A.s rfl ?_)
        refine A.x rfl (by decide) rfl eb rfl ?_
        (repeat first|refine A.s rfl ?_|refine A.r rfl rfl ?_|refine A.w rfl rfl ?_|refine A.b rfl fun bx=>?_)
        refine A.c rfl ihb .refl ?_
        (repeat refine A.t rfl fun bl=>?_)
        refine A.append rfl rfl rfl rfl rfl rfl rfl rfl rfl rfl rfl rfl rfl rfl (by show (1 + 1) * 1 ≤ _; decide) fun z' => ?_
        (repeat refine A.s rfl ?_)
        refine A.valE 27 rfl (x' := AI 1) rfl ?_
        refine A.x rfl (by decide) rfl rfl rfl ?_
        (repeat refine A.s rfl ?_)
        refine A.valE 6 rfl (x' := AU64 (kS (fitsM l a 1 && fitsM l b 1) (fitsM l a 2 && fitsM l b 2) (fitsM l a 3 && fitsM l b 3))) (au64_eq (kS_and _ _ _ _ _ _)) ?_
        skip
        refine A.again ?_
        (repeat first|refine A.s rfl ?_|refine A.r rfl rfl ?_|refine A.t rfl fun bl=>?_)
        refine A.c rfl ho2 (by repeat (first | exact Sb.refl | exact SbL.refl | refine SbL.cons ?_ ?_ | exact Sb.nil | exact Sb.own1 | refine Sb.own ?_ | refine Sb.ag ?_ | refine Sb.tp ?_)) ?_
        (repeat refine A.s rfl ?_)
        refine A.valE 140 rfl (x' := AB ((fitsM l a 1 && fitsM l b 1) || (fitsM l a 2 && fitsM l b 2))) (ab_eq (kS_6 _ _ _)) ?_
        refine A.c rfl hw .refl ?_
        (repeat refine A.s rfl ?_); refine A.ret1 (Λ' := []) rfl rfl rfl (List.nil_sublist _) ⟨?_, rfl⟩; refine Sb.eq (au64_eq (kF_eq fun k => ?_)); simp only [isF, fitsM, fitsL, fitC]; by_cases hk : k = 3 <;> simp [hk]
      by_cases o19 : o = 19
      · subst o19
        have hw := when_p ((fitsM l a 1 && fitsM l b 1) || (fitsM l a 2 && fitsM l b 2)) 3 (by decide)
        have ho2 := of_p [1, 2] (by decide) (by decide)
        rw [of12] at ho2
        refine Pure.of (S := tt) (fn := Tryz.f88) (n := 160) tt_ok Tryz.func88 rfl rfl rfl rfl fun w0 h0 F hgs => ?_
        (repeat first|refine A.s rfl ?_|refine A.r rfl rfl ?_|refine A.b rfl fun bx=>?_)
        refine A.loop1 ?_
        (repeat refine A.s rfl ?_)
        refine A.x rfl (by decide) rfl ea rfl ?_
        (repeat first|refine A.s rfl ?_|refine A.r rfl rfl ?_|refine A.w rfl rfl ?_|refine A.b rfl fun bx=>?_)
        refine A.c rfl iha .refl ?_
        (repeat refine A.t rfl fun bl=>?_)
        refine A.append0 rfl rfl rfl rfl rfl rfl rfl rfl rfl rfl rfl rfl rfl rfl (by show (0 + 1) * 1 ≤ _; decide) fun z => ?_
        (repeat refine A.s rfl ?_)
        refine A.valE 27 rfl (x' := AI 0) rfl ?_
        refine A.x rfl (by decide) rfl rfl rfl ?_
        (repeat refine A.s rfl ?_)
        refine A.valE 6 rfl (x' := AU64 (kF (fitsM l a))) (au64_eq (kS_ones _ _ _)) ?_
        skip
        refine A.again ?_
        (repeat refine A.s rfl ?_)
        refine A.x rfl (by decide) rfl eb rfl ?_
        (repeat first|refine A.s rfl ?_|refine A.r rfl rfl ?_|refine A.w rfl rfl ?_|refine A.b rfl fun bx=>?_)
        refine A.c rfl ihb .refl ?_
        (repeat refine A.t rfl fun bl=>?_)
        refine A.append rfl rfl rfl rfl rfl rfl rfl rfl rfl rfl rfl rfl rfl rfl (by show (1 + 1) * 1 ≤ _; decide) fun z' => ?_
        (repeat refine A.s rfl ?_)
        refine A.valE 27 rfl (x' := AI 1) rfl ?_
        refine A.x rfl (by decide) rfl rfl rfl ?_
        (repeat refine A.s rfl ?_)
        refine A.valE 6 rfl (x' := AU64 (kS (fitsM l a 1 && fitsM l b 1) (fitsM l a 2 && fitsM l b 2) (fitsM l a 3 && fitsM l b 3))) (au64_eq (kS_and _ _ _ _ _ _)) ?_
        skip
        refine A.again ?_
        (repeat first|refine A.s rfl ?_|refine A.r rfl rfl ?_|refine A.t rfl fun bl=>?_)
        refine A.c rfl ho2 (by repeat (first | exact Sb.refl | exact SbL.refl | refine SbL.cons ?_ ?_ | exact Sb.nil | exact Sb.own1 | refine Sb.own ?_ | refine Sb.ag ?_ | refine Sb.tp ?_)) ?_
        (repeat refine A.s rfl ?_)
        refine A.valE 140 rfl (x' := AB ((fitsM l a 1 && fitsM l b 1) || (fitsM l a 2 && fitsM l b 2))) (ab_eq (kS_6 _ _ _)) ?_
        refine A.c rfl hw .refl ?_
        (repeat refine A.s rfl ?_); refine A.ret1 (Λ' := []) rfl rfl rfl (List.nil_sublist _) ⟨?_, rfl⟩; refine Sb.eq (au64_eq (kF_eq fun k => ?_)); simp only [isF, fitsM, fitsL, fitC]; by_cases hk : k = 3 <;> simp [hk]
      by_cases o20 : o = 20
      · subst o20
        have hw := when_p (fitsM l a 3 && fitsM l b 3) 3 (by decide)
        have hh := has_p (kS (fitsM l a 1 && fitsM l b 1) (fitsM l a 2 && fitsM l b 2) (fitsM l a 3 && fitsM l b 3)) 3 (by decide)
        rw [has_3] at hh
        refine Pure.of (S := tt) (fn := Tryz.f88) (n := 160) tt_ok Tryz.func88 rfl rfl rfl rfl fun w0 h0 F hgs => ?_
        (repeat first|refine A.s rfl ?_|refine A.r rfl rfl ?_|refine A.b rfl fun bx=>?_)
        refine A.loop1 ?_
        (repeat refine A.s rfl ?_)
        refine A.x rfl (by decide) rfl ea rfl ?_
        (repeat first|refine A.s rfl ?_|refine A.r rfl rfl ?_|refine A.w rfl rfl ?_|refine A.b rfl fun bx=>?_)
        refine A.c rfl iha .refl ?_
        (repeat refine A.t rfl fun bl=>?_)
        refine A.append0 rfl rfl rfl rfl rfl rfl rfl rfl rfl rfl rfl rfl rfl rfl (by show (0 + 1) * 1 ≤ _; decide) fun z => ?_
        (repeat refine A.s rfl ?_)
        refine A.valE 27 rfl (x' := AI 0) rfl ?_
        refine A.x rfl (by decide) rfl rfl rfl ?_
        (repeat refine A.s rfl ?_)
        refine A.valE 6 rfl (x' := AU64 (kF (fitsM l a))) (au64_eq (kS_ones _ _ _)) ?_
        skip
        refine A.again ?_
        (repeat refine A.s rfl ?_)
        refine A.x rfl (by decide) rfl eb rfl ?_
        (repeat first|refine A.s rfl ?_|refine A.r rfl rfl ?_|refine A.w rfl rfl ?_|refine A.b rfl fun bx=>?_)
        refine A.c rfl ihb .refl ?_
        (repeat refine A.t rfl fun bl=>?_)
        refine A.append rfl rfl rfl rfl rfl rfl rfl rfl rfl rfl rfl rfl rfl rfl (by show (1 + 1) * 1 ≤ _; decide) fun z' => ?_
        (repeat refine A.s rfl ?_)
        refine A.valE 27 rfl (x' := AI 1) rfl ?_
        refine A.x rfl (by decide) rfl rfl rfl ?_
        (repeat refine A.s rfl ?_)
        refine A.valE 6 rfl (x' := AU64 (kS (fitsM l a 1 && fitsM l b 1) (fitsM l a 2 && fitsM l b 2) (fitsM l a 3 && fitsM l b 3))) (au64_eq (kS_and _ _ _ _ _ _)) ?_
        skip
        refine A.again ?_
        (repeat first|refine A.s rfl ?_|refine A.r rfl rfl ?_)
        refine A.c rfl hh .refl ?_
        skip
        refine A.c rfl hw .refl ?_
        (repeat refine A.s rfl ?_); refine A.ret1 (Λ' := []) rfl rfl rfl (List.nil_sublist _) ⟨?_, rfl⟩; refine Sb.eq (au64_eq (kF_eq fun k => ?_)); simp only [isF, fitsM, fitsL, fitC]; by_cases hk : k = 3 <;> simp [hk]
      by_cases o21 : o = 21
      · subst o21
        have hw := when_p (fitsM l a 3 && fitsM l b 3) 3 (by decide)
        have hh := has_p (kS (fitsM l a 1 && fitsM l b 1) (fitsM l a 2 && fitsM l b 2) (fitsM l a 3 && fitsM l b 3)) 3 (by decide)
        rw [has_3] at hh
        refine Pure.of (S := tt) (fn := Tryz.f88) (n := 160) tt_ok Tryz.func88 rfl rfl rfl rfl fun w0 h0 F hgs => ?_
        (repeat first|refine A.s rfl ?_|refine A.r rfl rfl ?_|refine A.b rfl fun bx=>?_)
        refine A.loop1 ?_
        (repeat refine A.s rfl ?_)
        refine A.x rfl (by decide) rfl ea rfl ?_
        (repeat first|refine A.s rfl ?_|refine A.r rfl rfl ?_|refine A.w rfl rfl ?_|refine A.b rfl fun bx=>?_)
        refine A.c rfl iha .refl ?_
        (repeat refine A.t rfl fun bl=>?_)
        refine A.append0 rfl rfl rfl rfl rfl rfl rfl rfl rfl rfl rfl rfl rfl rfl (by show (0 + 1) * 1 ≤ _; decide) fun z => ?_
        (repeat refine A.s rfl ?_)
        refine A.valE 27 rfl (x' := AI 0) rfl ?_
        refine A.x rfl (by decide) rfl rfl rfl ?_
        (repeat refine A.s rfl ?_)
        refine A.valE 6 rfl (x' := AU64 (kF (fitsM l a))) (au64_eq (kS_ones _ _ _)) ?_
        skip
        refine A.again ?_
        (repeat refine A.s rfl ?_)
        refine A.x rfl (by decide) rfl eb rfl ?_
        (repeat first|refine A.s rfl ?_|refine A.r rfl rfl ?_|refine A.w rfl rfl ?_|refine A.b rfl fun bx=>?_)
        refine A.c rfl ihb .refl ?_
        (repeat refine A.t rfl fun bl=>?_)
        refine A.append rfl rfl rfl rfl rfl rfl rfl rfl rfl rfl rfl rfl rfl rfl (by show (1 + 1) * 1 ≤ _; decide) fun z' => ?_
        (repeat refine A.s rfl ?_)
        refine A.valE 27 rfl (x' := AI 1) rfl ?_
        refine A.x rfl (by decide) rfl rfl rfl ?_
        (repeat refine A.s rfl ?_)
        refine A.valE 6 rfl (x' := AU64 (kS (fitsM l a 1 && fitsM l b 1) (fitsM l a 2 && fitsM l b 2) (fitsM l a 3 && fitsM l b 3))) (au64_eq (kS_and _ _ _ _ _ _)) ?_
        skip
        refine A.again ?_
        (repeat first|refine A.s rfl ?_|refine A.r rfl rfl ?_)
        refine A.c rfl hh .refl ?_
        skip
        refine A.c rfl hw .refl ?_
        (repeat refine A.s rfl ?_); refine A.ret1 (Λ' := []) rfl rfl rfl (List.nil_sublist _) ⟨?_, rfl⟩; refine Sb.eq (au64_eq (kF_eq fun k => ?_)); simp only [isF, fitsM, fitsL, fitC]; by_cases hk : k = 3 <;> simp [hk]
      by_cases o22 : o = 22
      · subst o22
        have hw := when_p (fitsM l a 1 && fitsM l b 1) 3 (by decide)
        have hh := has_p (kS (fitsM l a 1 && fitsM l b 1) (fitsM l a 2 && fitsM l b 2) (fitsM l a 3 && fitsM l b 3)) 1 (by decide)
        rw [has_1] at hh
        refine Pure.of (S := tt) (fn := Tryz.f88) (n := 160) tt_ok Tryz.func88 rfl rfl rfl rfl fun w0 h0 F hgs => ?_
        (repeat first|refine A.s rfl ?_|refine A.r rfl rfl ?_|refine A.b rfl fun bx=>?_)
        refine A.loop1 ?_
        (repeat refine A.s rfl ?_)
        refine A.x rfl (by decide) rfl ea rfl ?_
        (repeat first|refine A.s rfl ?_|refine A.r rfl rfl ?_|refine A.w rfl rfl ?_|refine A.b rfl fun bx=>?_)
        refine A.c rfl iha .refl ?_
        (repeat refine A.t rfl fun bl=>?_)
        refine A.append0 rfl rfl rfl rfl rfl rfl rfl rfl rfl rfl rfl rfl rfl rfl (by show (0 + 1) * 1 ≤ _; decide) fun z => ?_
        (repeat refine A.s rfl ?_)
        refine A.valE 27 rfl (x' := AI 0) rfl ?_
        refine A.x rfl (by decide) rfl rfl rfl ?_
        (repeat refine A.s rfl ?_)
        refine A.valE 6 rfl (x' := AU64 (kF (fitsM l a))) (au64_eq (kS_ones _ _ _)) ?_
        skip
        refine A.again ?_
        (repeat refine A.s rfl ?_)
        refine A.x rfl (by decide) rfl eb rfl ?_
        (repeat first|refine A.s rfl ?_|refine A.r rfl rfl ?_|refine A.w rfl rfl ?_|refine A.b rfl fun bx=>?_)
        refine A.c rfl ihb .refl ?_
        (repeat refine A.t rfl fun bl=>?_)
        refine A.append rfl rfl rfl rfl rfl rfl rfl rfl rfl rfl rfl rfl rfl rfl (by show (1 + 1) * 1 ≤ _; decide) fun z' => ?_
        (repeat refine A.s rfl ?_)
        refine A.valE 27 rfl (x' := AI 1) rfl ?_
        refine A.x rfl (by decide) rfl rfl rfl ?_
        (repeat refine A.s rfl ?_)
        refine A.valE 6 rfl (x' := AU64 (kS (fitsM l a 1 && fitsM l b 1) (fitsM l a 2 && fitsM l b 2) (fitsM l a 3 && fitsM l b 3))) (au64_eq (kS_and _ _ _ _ _ _)) ?_
        skip
        refine A.again ?_
        (repeat first|refine A.s rfl ?_|refine A.r rfl rfl ?_)
        refine A.c rfl hh .refl ?_
        skip
        refine A.c rfl hw .refl ?_
        (repeat refine A.s rfl ?_); refine A.ret1 (Λ' := []) rfl rfl rfl (List.nil_sublist _) ⟨?_, rfl⟩; refine Sb.eq (au64_eq (kF_eq fun k => ?_)); simp only [isF, fitsM, fitsL, fitC]; by_cases hk : k = 3 <;> simp [hk]
      have hw := when_p (fitsM l a 1 && fitsM l b 1) 1 (by decide)
      have hh := has_p (kS (fitsM l a 1 && fitsM l b 1) (fitsM l a 2 && fitsM l b 2) (fitsM l a 3 && fitsM l b 3)) 1 (by decide)
      rw [has_1] at hh
      have ho13 : o ≤ 13 := by omega
      refine Pure.of (S := tt) (fn := Tryz.f88) (n := 160) tt_ok Tryz.func88 rfl rfl rfl rfl fun w0 h0 F hgs => ?_
      (repeat first|refine A.s rfl ?_|refine A.r rfl rfl ?_|refine A.b rfl fun bx=>?_)
      refine A.loop1 ?_
      (repeat refine A.s rfl ?_)
      refine A.x rfl (by decide) rfl ea rfl ?_
      (repeat first|refine A.s rfl ?_|refine A.r rfl rfl ?_|refine A.w rfl rfl ?_|refine A.b rfl fun bx=>?_)
      refine A.c rfl iha .refl ?_
      (repeat refine A.t rfl fun bl=>?_)
      refine A.append0 rfl rfl rfl rfl rfl rfl rfl rfl rfl rfl rfl rfl rfl rfl (by show (0 + 1) * 1 ≤ _; decide) fun z => ?_
      (repeat refine A.s rfl ?_)
      refine A.valE 27 rfl (x' := AI 0) rfl ?_
      refine A.x rfl (by decide) rfl rfl rfl ?_
      (repeat refine A.s rfl ?_)
      refine A.valE 6 rfl (x' := AU64 (kF (fitsM l a))) (au64_eq (kS_ones _ _ _)) ?_
      skip
      refine A.again ?_
      (repeat refine A.s rfl ?_)
      refine A.x rfl (by decide) rfl eb rfl ?_
      (repeat first|refine A.s rfl ?_|refine A.r rfl rfl ?_|refine A.w rfl rfl ?_|refine A.b rfl fun bx=>?_)
      refine A.c rfl ihb .refl ?_
      (repeat refine A.t rfl fun bl=>?_)
      refine A.append rfl rfl rfl rfl rfl rfl rfl rfl rfl rfl rfl rfl rfl rfl (by show (1 + 1) * 1 ≤ _; decide) fun z' => ?_
      (repeat refine A.s rfl ?_)
      refine A.valE 27 rfl (x' := AI 1) rfl ?_
      refine A.x rfl (by decide) rfl rfl rfl ?_
      (repeat refine A.s rfl ?_)
      refine A.valE 6 rfl (x' := AU64 (kS (fitsM l a 1 && fitsM l b 1) (fitsM l a 2 && fitsM l b 2) (fitsM l a 3 && fitsM l b 3))) (au64_eq (kS_and _ _ _ _ _ _)) ?_
      skip
      refine A.again ?_
      (repeat (first | first|refine A.s rfl ?_|refine A.r rfl rfl ?_|refine A.w rfl rfl ?_|refine A.p rfl ?_|refine A.b rfl fun bx=>?_|refine A.t rfl fun bl=>?_ | refine A.cond rfl (fun h => (by simp at h; omega)) (fun _ => ?_) | first|refine A.step rfl ?_|refine A.v rfl rfl ?_))
      refine A.c rfl hh .refl ?_
      skip
      refine A.c rfl hw .refl ?_
      (repeat refine A.s rfl ?_); refine A.ret1 (Λ' := []) rfl rfl rfl (List.nil_sublist _) ⟨?_, rfl⟩; refine Sb.eq (au64_eq (kF_eq fun k => ?_)); simp only [isF, fitsM, fitsL, fitC, if_pos ho13]; simp; exact Bool.and_comm _ _
    · rw [ht, htl, htl] at hn
      have ea := encK_eq a
      have iha := kinds_p l ch x lf hl hv N a (by omega) h3
      rw [ea] at iha
      simp only [encK, encKl]
      have hw := when_p (fitsM l a 1 || fitsM l a 2 || fitsM l a 3) t ⟨h1, h2⟩
      refine Pure.of (S := tt) (fn := Tryz.f88) (n := 160) tt_ok Tryz.func88 rfl rfl rfl rfl fun w0 h0 F hgs => ?_
      (repeat first|refine A.s rfl ?_|refine A.r rfl rfl ?_|refine A.b rfl fun bx=>?_)
      refine A.loop1 ?_
      (repeat refine A.s rfl ?_)
      refine A.x rfl (by decide) rfl ea rfl ?_
      (repeat first|refine A.s rfl ?_|refine A.r rfl rfl ?_|refine A.w rfl rfl ?_|refine A.b rfl fun bx=>?_)
      refine A.c rfl iha .refl ?_
      (repeat refine A.t rfl fun bl=>?_)
      refine A.append0 rfl rfl rfl rfl rfl rfl rfl rfl rfl rfl rfl rfl rfl rfl (by show (0 + 1) * 1 ≤ _; decide) fun z => ?_
      (repeat refine A.s rfl ?_)
      refine A.valE 27 rfl (x' := AI 0) rfl ?_
      refine A.x rfl (by decide) rfl rfl rfl ?_
      (repeat refine A.s rfl ?_)
      refine A.valE 6 rfl (x' := AU64 (kF (fitsM l a))) (au64_eq (kS_ones _ _ _)) ?_
      skip
      refine A.again ?_
      (repeat first|refine A.s rfl ?_|refine A.r rfl rfl ?_)
      refine A.draw 7 [0, 1, 2, 3, 4, 5, 6] noPubs [] (by kernel_rfl) (by kernel_rfl) ?_
      (repeat refine WA.s rfl ?_)
      refine WA.x rfl (by decide) rfl rfl rfl ?_
      (repeat first|refine WA.s rfl ?_|refine WA.r rfl rfl ?_)
      refine WA.valE 117 rfl (x' := AB (fitsM l a 1 || fitsM l a 2 || fitsM l a 3)) (ab_eq (kS_ne _ _ _)) ?_
      refine WA.nil (l := []) rfl ?_
      skip
      refine A.c rfl hw .refl ?_
      (repeat refine A.s rfl ?_); refine A.ret1 (Λ' := []) rfl rfl rfl (List.nil_sublist _) ⟨?_, rfl⟩; refine Sb.eq (au64_eq (kF_eq fun k => ?_)); simp [isF, fitsM, fitsL, fitC, beq_c k]; exact Bool.and_comm _ _
theorem kfits_p (l : List KV) (ch : List Int) (x : Nat → AV) (lf : Int) (hl : l.length ≤ 281474976710656) (hv : VarsOk l) (e : KE) (hw : wfK e) (kind : Int) (hk : 1 ≤ kind ∧ kind ≤ 3) : Pure Tryz.prog gs0 74 [ckP l ch x lf, encK e, AU8 kind] (AB (decide (valid e) && fitsM l e kind)) := by
  have hva := kvalid_p e hw
  rw [encK_eq] at hva ⊢
  by_cases hve : valid e
  · have hkd := kinds_p l ch x lf hl hv (ht e) e (Nat.le_refl _) hve.1
    have hh := has_p (kF (fitsM l e)) kind (by omega)
    have he : hasB (kF (fitsM l e)) kind = fitsM l e kind := by
      have : kind = 1 ∨ kind = 2 ∨ kind = 3 := by omega
      rcases this with rfl | rfl | rfl
      · exact has_1 _ _ _
      · exact has_2 _ _ _
      · exact has_3 _ _ _
    rw [he] at hh
    rw [encK_eq] at hkd
    rw [decide_eq_true hve] at hva ⊢
    refine Pure.of (S := tt) (fn := Tryz.f74) (n := 16) tt_ok Tryz.func74 rfl rfl rfl rfl fun w0 h0 F hgs => ?_
    (repeat first|refine A.s rfl ?_|refine A.r rfl rfl ?_|refine A.b rfl fun bx=>?_)
    refine A.c rfl hva .refl ?_
    (repeat first|refine A.s rfl ?_|refine A.r rfl rfl ?_)
    refine A.c rfl hkd .refl ?_
    (repeat refine A.s rfl ?_)
    refine A.c rfl hh .refl ?_
    (repeat refine A.s rfl ?_); refine A.ret1 (Λ' := []) rfl rfl rfl (List.nil_sublist _) ⟨?_, rfl⟩; exact .refl
  · rw [decide_eq_false hve] at hva ⊢
    refine Pure.of (S := tt) (fn := Tryz.f74) (n := 16) tt_ok Tryz.func74 rfl rfl rfl rfl fun w0 h0 F hgs => ?_
    (repeat first|refine A.s rfl ?_|refine A.r rfl rfl ?_|refine A.b rfl fun bx=>?_)
    refine A.c rfl hva .refl ?_
    (repeat refine A.s rfl ?_); refine A.ret1 (Λ' := []) rfl rfl rfl (List.nil_sublist _) ⟨?_, rfl⟩; exact .refl
end Go.Proofs.YtgmeahcclogfmaaGreatDoor
/-!
  Layer 16: processes of a kernel as data; what may be said of one by itself.
-/
namespace Go.Proofs.YtgmeahcclogfmaaGreatDoor
open Go Go.Tp
set_option linter.unusedVariables false
set_option linter.unusedSimpArgs false
set_option maxRecDepth 100000
set_option maxHeartbeats 4000000
structure PL where
  v : Int
  ix : List KE
mutual
inductive PR where
  | mk (kind c v item : Int) (to : List PL) (e : List KE) (gs : List GD) (l : List PR)
inductive GD where
  | mk (kind : Int) (cond : KE) (c item : Int) (to : PL) (time : KE) (body : List PR)
end
abbrev PR.kind : PR → Int | ⟨k, _, _, _, _, _, _, _⟩ => k
abbrev PR.c : PR → Int | ⟨_, c, _, _, _, _, _, _⟩ => c
abbrev PR.v : PR → Int | ⟨_, _, v, _, _, _, _, _⟩ => v
abbrev PR.item : PR → Int | ⟨_, _, _, i, _, _, _, _⟩ => i
abbrev PR.to : PR → List PL | ⟨_, _, _, _, t, _, _, _⟩ => t
abbrev PR.e : PR → List KE | ⟨_, _, _, _, _, e, _, _⟩ => e
abbrev PR.gs : PR → List GD | ⟨_, _, _, _, _, _, g, _⟩ => g
abbrev PR.l : PR → List PR | ⟨_, _, _, _, _, _, _, l⟩ => l
abbrev GD.kind : GD → Int | ⟨k, _, _, _, _, _, _⟩ => k
abbrev GD.cond : GD → KE | ⟨_, e, _, _, _, _, _⟩ => e
abbrev GD.c : GD → Int | ⟨_, _, c, _, _, _, _⟩ => c
abbrev GD.item : GD → Int | ⟨_, _, _, i, _, _, _⟩ => i
abbrev GD.to : GD → PL | ⟨_, _, _, _, t, _, _⟩ => t
abbrev GD.time : GD → KE | ⟨_, _, _, _, _, t, _⟩ => t
abbrev GD.body : GD → List PR | ⟨_, _, _, _, _, _, b⟩ => b
abbrev encPl (p : PL) : AV := .ag [AI p.v, .sl 6 (encKl p.ix) none]
abbrev plsA (l : List PL) : AV := .sl 2 (l.map encPl) none
abbrev kesA (l : List KE) : AV := .sl 6 (encKl l) none
mutual
def encR : PR → AV
  | ⟨k, c, v, i, to, e, gs, l⟩ => .ag [AU8 k, AI c, AI v, AU8 i, plsA to, kesA e, .sl 18 (encGl gs) none, .sl 8 (encRl l) none]
def encRl : List PR → List AV
  | [] => []
  | p :: r => encR p :: encRl r
def encG : GD → AV
  | ⟨k, e, c, i, to, t, b⟩ => .ag [AU8 k, AU8 e.kind, AU8 e.oper, AU8 e.to, AI32 e.n, AI e.v, kesA e.l, AI c, AU8 i, AI to.v, kesA to.ix, AU8 t.kind, AU8 t.oper, AU8 t.to, AI32 t.n, AI t.v, kesA t.l, .sl 8 (encRl b) none]
def encGl : List GD → List AV
  | [] => []
  | g :: r => encG g :: encGl r
end
abbrev rsA (l : List PR) : AV := .sl 8 (encRl l) none
abbrev gsA (l : List GD) : AV := .sl 18 (encGl l) none
abbrev cellsR (p : PR) : AV := .ag [AU8 p.kind, AI p.c, AI p.v, AU8 p.item, plsA p.to, kesA p.e, gsA p.gs, rsA p.l]
abbrev cellsG (g : GD) : AV := .ag [AU8 g.kind, AU8 g.cond.kind, AU8 g.cond.oper, AU8 g.cond.to, AI32 g.cond.n, AI g.cond.v, kesA g.cond.l, AI g.c, AU8 g.item, AI g.to.v, kesA g.to.ix, AU8 g.time.kind, AU8 g.time.oper, AU8 g.time.to, AI32 g.time.n, AI g.time.v, kesA g.time.l, rsA g.body]
theorem encR_eq (p : PR) : encR p = cellsR p := by obtain ⟨k, c, v, i, to, e, gs, l⟩ := p; rw [encR]
theorem encG_eq (g : GD) : encG g = cellsG g := by obtain ⟨k, e, c, i, to, t, b⟩ := g; rw [encG]
theorem encRl_map (l : List PR) : encRl l = l.map encR := by
  induction l with
  | nil => rw [encRl]; rfl
  | cons x r ih => rw [encRl, ih]; rfl
theorem encGl_map (l : List GD) : encGl l = l.map encG := by
  induction l with
  | nil => rw [encGl]; rfl
  | cons x r ih => rw [encGl, ih]; rfl
theorem encRl_len (l : List PR) : (encRl l).length = l.length := by rw [encRl_map, List.length_map]
theorem encGl_len (l : List GD) : (encGl l).length = l.length := by rw [encGl_map, List.length_map]
theorem encRl_at {l : List PR} {i : Nat} {x : PR} (h : l[i]? = some x) : (encRl l)[i]? = some (encR x) := by rw [encRl_map]; exact map_at h
theorem encGl_at {l : List GD} {i : Nat} {x : GD} (h : l[i]? = some x) : (encGl l)[i]? = some (encG x) := by rw [encGl_map]; exact map_at h
def wfPl (p : PL) : Prop := wfKl p.ix
mutual
/-- its expressions' numbers are such of their kinds; its lists are not longer than memory bears -/
def wfR : PR → Prop
  | ⟨k, c, v, i, to, e, gs, l⟩ => ((∀ t, t ∈ to → wfPl t) ∧ wfKl e ∧ to.length ≤ 281474976710656 ∧ gs.length ≤ 281474976710656 ∧ l.length ≤ 281474976710656) ∧ wfGl gs ∧ wfRl l
def wfRl : List PR → Prop
  | [] => True
  | p :: r => wfR p ∧ wfRl r
def wfG : GD → Prop
  | ⟨k, e, c, i, to, t, b⟩ => (wfK e ∧ wfK t ∧ wfPl to) ∧ wfRl b
def wfGl : List GD → Prop
  | [] => True
  | g :: r => wfG g ∧ wfGl r
end
theorem wfRl_mem : ∀ {l : List PR}, wfRl l → ∀ x, x ∈ l → wfR x
  | [], _, x, h => by cases h
  | y :: r, hw, x, h => by
    rw [wfRl] at hw
    rcases List.mem_cons.1 h with rfl | h
    · exact hw.1
    · exact wfRl_mem hw.2 x h
theorem wfGl_mem : ∀ {l : List GD}, wfGl l → ∀ x, x ∈ l → wfG x
  | [], _, x, h => by cases h
  | y :: r, hw, x, h => by
    rw [wfGl] at hw
    rcases List.mem_cons.1 h with rfl | h
    · exact hw.1
    · exact wfGl_mem hw.2 x h
structure WfR (p : PR) : Prop where
  to : ∀ t, t ∈ p.to → wfPl t
  e : ∀ x, x ∈ p.e → wfK x
  tol : p.to.length ≤ 281474976710656
  gl : p.gs.length ≤ 281474976710656
  ll : p.l.length ≤ 281474976710656
  g : ∀ g, g ∈ p.gs → wfG g
  l : ∀ x, x ∈ p.l → wfR x
theorem wfR_all {p : PR} (h : wfR p) : WfR p := by
  obtain ⟨k, c, v, i, to, e, gs, l⟩ := p
  rw [wfR] at h
  exact ⟨h.1.1, wfKl_mem h.1.2.1, h.1.2.2.1, h.1.2.2.2.1, h.1.2.2.2.2, wfGl_mem h.2.1, wfRl_mem h.2.2⟩
structure WfG (g : GD) : Prop where
  cond : wfK g.cond
  time : wfK g.time
  to : wfPl g.to
  body : ∀ x, x ∈ g.body → wfR x
theorem wfG_all {g : GD} (h : wfG g) : WfG g := by
  obtain ⟨k, e, c, i, to, t, b⟩ := g
  rw [wfG] at h
  exact ⟨h.1.1, h.1.2.1, h.1.2.2, wfRl_mem h.2⟩
/-! ### what may be said of one by itself -/
def fitV (l : List KV) (e : KE) (k : Int) : Bool := decide (valid e) && fitsM l e k
def fit1 (l : List KV) (es : List KE) (k : Int) : Bool := match es with
  | e :: _ => fitV l e k
  | [] => false
def placeB (l : List KV) (p : PL) (k : Int) : Bool := if p.v < 0 ∨ (l.length : Int) ≤ p.v then false else match l[p.v.toNat]? with
  | some x => x.kind == k && (if x.dim = 0 then p.ix.length == 0 else p.ix.length == 1 && fit1 l p.ix 1)
  | none => false
def chanB (n : Nat) (ch item no : Int) : Bool := decide (0 ≤ ch) && decide (ch < n) && (ch != no) && primB item && (decide (1 < ch) || item == 1)
def inputB (l : List KV) (n : Nat) (ch item : Int) (to : PL) : Bool := chanB n ch item 1 && placeB l to item
def zeroE (e : KE) : Bool := e.kind == 0 && e.oper == 0 && e.to == 0 && e.n == 0 && e.v == 0 && decide (e.l.length ≤ 0)
def plainGB (g : GD) (input timed : Bool) : Bool := (input || (g.c == 0 && g.item == 0 && g.to.v == 0 && g.to.ix.length == 0)) && (timed || zeroE g.time)
def guardB (l : List KV) (n : Nat) (g : GD) (choice : Bool) : Bool := (g.body.length == 1) && fitV l g.cond 3 && ((g.kind == 1) == choice) &&
  (if g.kind = 1 ∨ g.kind = 2 then plainGB g false false else if g.kind = 3 then plainGB g true false && inputB l n g.c g.item g.to
   else if g.kind = 4 then plainGB g false true && fitV l g.time 1 else false)
def inB (n : Nat) (a b : Int) : Bool := decide (a ≤ (n : Int)) && decide ((n : Int) ≤ b)
def shapeR (p : PR) (ch v : Bool) (t1 t2 e1 e2 g1 g2 l1 l2 : Int) : Bool := (ch || (p.c == 0 && p.item == 0)) && (v || p.v == 0) && inB p.to.length t1 t2 && inB p.e.length e1 e2 && inB p.gs.length g1 g2 && inB p.l.length l1 l2
def assignB (l : List KV) (t : PL) (e : KE) : Bool := if t.v < 0 ∨ (l.length : Int) ≤ t.v then false else match l[t.v.toNat]? with
  | some x => placeB l t x.kind && fitV l e x.kind
  | none => false
def to1 (f : PL → Bool) (ts : List PL) : Bool := match ts with
  | t :: _ => f t
  | [] => false
def kindB (l : List KV) (n : Nat) (p : PR) : Bool :=
  if p.kind = 1 ∨ p.kind = 2 then shapeR p false false 0 0 0 0 0 0 0 0
  else if p.kind = 3 then shapeR p false true 0 0 0 0 0 0 0 0 && decide (0 ≤ p.v) && decide (p.v < l.length)
  else if p.kind = 4 then shapeR p false false 1 8 1 8 0 0 0 0 && (p.to.length == p.e.length) && (p.to.zip p.e).all fun te => assignB l te.1 te.2
  else if p.kind = 5 then shapeR p true false 1 1 0 0 0 0 0 0 && to1 (inputB l n p.c p.item) p.to
  else if p.kind = 6 then shapeR p true false 0 0 1 1 0 0 0 0 && chanB n p.c p.item 0 && fit1 l p.e p.item
  else if p.kind = 7 then shapeR p false false 1 1 0 0 0 0 0 0 && to1 (fun t => placeB l t 1) p.to
  else if p.kind = 8 then shapeR p false false 0 0 1 1 0 0 0 0 && fit1 l p.e 1
  else if p.kind = 9 then shapeR p false false 0 0 0 0 0 0 0 2048
  else if p.kind = 10 then shapeR p false false 0 0 0 0 0 0 0 16
  else if p.kind = 11 then shapeR p false false 0 0 0 0 0 0 2 2
  else if p.kind = 12 ∨ p.kind = 14 ∨ p.kind = 15 then shapeR p false false 0 0 0 0 0 16 0 0 && p.gs.all fun g => guardB l n g (p.kind == 12)
  else if p.kind = 13 then shapeR p false false 0 0 1 1 0 0 1 1 && fit1 l p.e 3
  else false
end Go.Proofs.YtgmeahcclogfmaaGreatDoor
/-!
  Layer 16: shapes, places, channels, guards, by the program.
-/
namespace Go.Proofs.YtgmeahcclogfmaaGreatDoor
open Go Go.Tp
set_option linter.unusedVariables false
set_option linter.unusedSimpArgs false
set_option maxRecDepth 100000
set_option maxHeartbeats 4000000
abbrev twoA (a b : Int) : AV := .ag [AI a, AI b]
theorem shape1_p (n : Nat) (a b : Int) : Pure Tryz.prog gs0 86 [AI (n : Int), twoA a b] (AB (inB n a b)) := by
  refine Pure.of (S := tt) (fn := Tryz.f86) (n := 15) tt_ok Tryz.func86 rfl rfl rfl rfl fun w0 h0 F hgs => ?_
  (repeat first|refine A.s rfl ?_|refine A.b rfl fun bx=>?_)
  refine A.indexArr rfl rfl rfl rfl rfl rfl rfl rfl (by decide) (by decide) ?_
  (repeat first|refine A.s rfl ?_|refine A.r rfl rfl ?_)
  ((fail_if_success (refine A.lit? rfl ?_)); refine A.gS rfl (fun hc => ?_) (fun hc => ?_))
  · (repeat refine A.s rfl ?_)
    refine A.indexArr rfl rfl rfl rfl rfl rfl rfl rfl (by decide) (by decide) ?_
    (repeat first|refine A.s rfl ?_|refine A.r rfl rfl ?_); refine A.ret1 (Λ' := []) rfl rfl rfl (List.nil_sublist _) ⟨?_, rfl⟩; refine Sb.eq (ab_eq ?_); rw [inB, hc]; rfl
  · (repeat refine A.s rfl ?_); refine A.ret1 (Λ' := []) rfl rfl rfl (List.nil_sublist _) ⟨?_, rfl⟩; refine Sb.eq (ab_eq ?_); rw [inB, hc]; rfl
theorem shape_p (p : PR) (ch v : Bool) (t1 t2 e1 e2 g1 g2 l1 l2 : Int) : Pure Tryz.prog gs0 72 [cellsR p, AB ch, AB v, twoA t1 t2, twoA e1 e2, twoA g1 g2, twoA l1 l2] (AB (shapeR p ch v t1 t2 e1 e2 g1 g2 l1 l2)) := by
  have s1 := shape1_p p.to.length t1 t2
  have s2 := shape1_p p.e.length e1 e2
  have s3 := shape1_p p.gs.length g1 g2
  have s4 := shape1_p p.l.length l1 l2
  have n1 : ((p.to.map encPl).length : Int) = p.to.length := by rw [List.length_map]
  have n2 : ((encKl p.e).length : Int) = p.e.length := by rw [encKl_len]
  have n3 : ((encGl p.gs).length : Int) = p.gs.length := by rw [encGl_len]
  have n4 : ((encRl p.l).length : Int) = p.l.length := by rw [encRl_len]
  rw [← n1] at s1
  rw [← n2] at s2
  rw [← n3] at s3
  rw [← n4] at s4
  unfold shapeR
  generalize inB p.to.length t1 t2 = b1 at s1 ⊢
  generalize inB p.e.length e1 e2 = b2 at s2 ⊢
  generalize inB p.gs.length g1 g2 = b3 at s3 ⊢
  generalize inB p.l.length l1 l2 = b4 at s4 ⊢
  cases ch <;> cases v
  all_goals refine Pure.of (S := tt) (fn := Tryz.f72) (n := 67) tt_ok Tryz.func72 rfl rfl rfl rfl fun w0 h0 F hgs => ?_
  all_goals (repeat' first|first|refine A.s rfl ?_|refine A.r rfl rfl ?_|refine A.w rfl rfl ?_|refine A.p rfl ?_|refine A.b rfl fun bx=>?_|refine A.t rfl fun bl=>?_|refine A.c rfl s1 .refl ?_|refine A.c rfl s2 .refl ?_|refine A.c rfl s3 .refl ?_|refine A.c rfl s4 .refl ?_|((fail_if_success (refine A.lit? rfl ?_)); refine A.gS rfl (fun hc => ?_) (fun hc => ?_))|((fail_if_success (refine A.litP? rfl ?_)); refine A.gSP rfl (fun hc => ?_) (fun hc => ?_)))
  (all_goals (refine A.ret1 (Λ' := []) rfl rfl rfl (List.nil_sublist _) ⟨?_, rfl⟩; refine Sb.eq (ab_eq ?_)))
  all_goals simp_all
theorem chan_p (l : List KV) (ch : List Int) (x : Nat → AV) (lf : Int) (c item no : Int) : Pure Tryz.prog gs0 76 [ckP l ch x lf, AI c, AU8 item, AI no] (AB (chanB ch.length c item no)) := by
  have hp := kprim_p item
  have hn : ((ch.map AU8).length : Int) = ch.length := by rw [List.length_map]
  unfold chanB
  generalize primB item = b at hp ⊢
  refine Pure.of (S := tt) (fn := Tryz.f76) (n := 38) tt_ok Tryz.func76 rfl rfl rfl rfl fun w0 h0 F hgs => ?_
  (repeat' first|first|refine A.s rfl ?_|refine A.r rfl rfl ?_|refine A.w rfl rfl ?_|refine A.p rfl ?_|refine A.b rfl fun bx=>?_|refine A.t rfl fun bl=>?_|refine A.c rfl hp .refl ?_|((fail_if_success (refine A.lit? rfl ?_)); refine A.gS rfl (fun hc => ?_) (fun hc => ?_))|((fail_if_success (refine A.litP? rfl ?_)); refine A.gSP rfl (fun hc => ?_) (fun hc => ?_)))
  (all_goals (refine A.ret1 (Λ' := []) rfl rfl rfl (List.nil_sublist _) ⟨?_, rfl⟩; refine Sb.eq (ab_eq ?_)))
  all_goals (rw [Bool.eq_iff_iff]; simp_all)
  all_goals (try intros)
  all_goals omega
theorem place_p (l : List KV) (ch : List Int) (x : Nat → AV) (lf : Int) (hl : l.length ≤ 281474976710656) (hv : VarsOk l) (p : PL) (hw : wfPl p) (k : Int) : Pure Tryz.prog gs0 73 [ckP l ch x lf, encPl p, AU8 k] (AB (placeB l p k)) := by
  have hlen : ((l.map encV).length : Int) = l.length := by rw [List.length_map]
  have hxl : ((encKl p.ix).length : Int) = p.ix.length := by rw [encKl_len]
  by_cases hneg : p.v < 0
  · refine Pure.of (S := tt) (fn := Tryz.f73) (n := 62) tt_ok Tryz.func73 rfl rfl rfl rfl fun w0 h0 F hgs => ?_
    (repeat first|refine A.s rfl ?_|refine A.b rfl fun bx=>?_)
    refine A.draw 26 [0, 1, 2, 3, 4, 5, 6, 7, 8, 9, 10, 11, 12, 13, 14, 15, 16, 17, 18, 19, 20, 21, 22, 23, 24, 25] noPubs [] (by kernel_rfl) (by kernel_rfl) ?_
    (repeat first|refine WA.s rfl ?_|refine WA.r rfl rfl ?_)
    refine WA.valE 10 rfl (x' := AB true) (ab_eq (by simpa using hneg)) ?_
    (repeat refine WA.s rfl ?_)
    refine WA.nil (l := []) rfl ?_
    (repeat refine A.s rfl ?_); refine A.ret1 (Λ' := []) rfl rfl rfl (List.nil_sublist _) ⟨?_, rfl⟩; refine Sb.eq (ab_eq ?_); rw [placeB, if_pos (.inl hneg)]
  by_cases h1 : (l.length : Int) ≤ p.v
  · refine Pure.of (S := tt) (fn := Tryz.f73) (n := 62) tt_ok Tryz.func73 rfl rfl rfl rfl fun w0 h0 F hgs => ?_
    (repeat first|refine A.s rfl ?_|refine A.b rfl fun bx=>?_)
    refine A.draw 26 [0, 1, 2, 3, 4, 5, 6, 7, 8, 9, 10, 11, 12, 13, 14, 15, 16, 17, 18, 19, 20, 21, 22, 23, 24, 25] noPubs [] (by kernel_rfl) (by kernel_rfl) ?_
    (repeat first|refine WA.s rfl ?_|refine WA.r rfl rfl ?_)
    refine WA.valE 10 rfl (x' := AB false) (ab_eq (by simp; omega)) ?_
    (repeat first|refine WA.s rfl ?_|refine WA.r rfl rfl ?_)
    refine WA.valE 21 rfl (x' := AB true) (ab_eq (by rw [hlen]; simpa using h1)) ?_
    (repeat refine WA.s rfl ?_)
    refine WA.nil (l := []) rfl ?_
    (repeat refine A.s rfl ?_); refine A.ret1 (Λ' := []) rfl rfl rfl (List.nil_sublist _) ⟨?_, rfl⟩; refine Sb.eq (ab_eq ?_); rw [placeB, if_pos (.inr h1)]
  refine Exists.elim (at_ex (l := l) (i := p.v) (by omega) (by omega)) fun y hy => ?_
  have hyk := hv y (List.mem_of_getElem? hy)
  have hpb : placeB l p k = (y.kind == k && (if y.dim = 0 then p.ix.length == 0 else p.ix.length == 1 && fit1 l p.ix 1)) := by rw [placeB, if_neg (by omega), hy]
  rw [hpb]
  clear hpb
  have hv0 : (0 : Int) ≤ p.v := by omega
  by_cases hk : y.kind = k
  case neg =>
    refine Pure.of (S := tt) (fn := Tryz.f73) (n := 62) tt_ok Tryz.func73 rfl rfl rfl rfl fun w0 h0 F hgs => ?_
    (repeat first|refine A.s rfl ?_|refine A.b rfl fun bx=>?_)
    refine A.draw 26 [0, 1, 2, 3, 4, 5, 6, 7, 8, 9, 10, 11, 12, 13, 14, 15, 16, 17, 18, 19, 20, 21, 22, 23, 24, 25] noPubs [] (by kernel_rfl) (by kernel_rfl) ?_
    (repeat first|refine WA.s rfl ?_|refine WA.r rfl rfl ?_)
    refine WA.valE 10 rfl (x' := AB false) (ab_eq (by simp; omega)) ?_
    (repeat first|refine WA.s rfl ?_|refine WA.r rfl rfl ?_)
    refine WA.valE 21 rfl (x' := AB false) (ab_eq (by rw [hlen]; simp; omega)) ?_
    (repeat first|refine WA.s rfl ?_|refine WA.r rfl rfl ?_)
    refine WA.x rfl hv0 (map_at hy) rfl rfl ?_
    (repeat refine WA.s rfl ?_)
    refine WA.nil (l := []) rfl ?_
    (repeat refine A.s rfl ?_)
    refine A.valE 34 rfl (x' := AB true) (ab_eq (by simpa using hk)) ?_
    (repeat refine A.s rfl ?_); refine A.ret1 (Λ' := []) rfl rfl rfl (List.nil_sublist _) ⟨?_, rfl⟩; refine Sb.eq (ab_eq ?_); simp [hk]
  subst hk
  by_cases hd : y.dim = 0
  · refine Pure.of (S := tt) (fn := Tryz.f73) (n := 62) tt_ok Tryz.func73 rfl rfl rfl rfl fun w0 h0 F hgs => ?_
    (repeat first|refine A.s rfl ?_|refine A.b rfl fun bx=>?_)
    refine A.draw 26 [0, 1, 2, 3, 4, 5, 6, 7, 8, 9, 10, 11, 12, 13, 14, 15, 16, 17, 18, 19, 20, 21, 22, 23, 24, 25] noPubs [] (by kernel_rfl) (by kernel_rfl) ?_
    (repeat first|refine WA.s rfl ?_|refine WA.r rfl rfl ?_)
    refine WA.valE 10 rfl (x' := AB false) (ab_eq (by simp; omega)) ?_
    (repeat first|refine WA.s rfl ?_|refine WA.r rfl rfl ?_)
    refine WA.valE 21 rfl (x' := AB false) (ab_eq (by rw [hlen]; simp; omega)) ?_
    (repeat first|refine WA.s rfl ?_|refine WA.r rfl rfl ?_)
    refine WA.x rfl hv0 (map_at hy) rfl rfl ?_
    (repeat refine WA.s rfl ?_)
    refine WA.nil (l := []) rfl ?_
    (repeat refine A.s rfl ?_)
    refine A.valE 34 rfl (x' := AB false) (ab_eq (by simp)) ?_
    (repeat refine A.s rfl ?_)
    refine A.draw 7 [0, 1, 2, 3, 4, 5, 6] noPubs [] (by kernel_rfl) (by kernel_rfl) ?_
    (repeat first|refine WA.s rfl ?_|refine WA.r rfl rfl ?_)
    refine WA.nil (l := []) rfl ?_
    skip
    refine A.x rfl hv0 (map_at hy) rfl rfl ?_
    (repeat refine A.s rfl ?_)
    refine A.valE 45 rfl (x' := AB true) (ab_eq (by simpa using hd)) ?_
    (repeat first|refine A.s rfl ?_|refine A.r rfl rfl ?_); refine A.ret1 (Λ' := []) rfl rfl rfl (List.nil_sublist _) ⟨?_, rfl⟩; refine Sb.eq (ab_eq ?_); rw [hxl, if_pos hd, Bool.eq_iff_iff]; simp
  · have hfin : ∀ e, p.ix = [e] → Pure Tryz.prog gs0 74 [ckP l ch x lf, encK e, AU8 1] (AB (fit1 l p.ix 1)) := fun e he => by
      have := kfits_p l ch x lf hl hv e (wfKl_mem hw e (by rw [he]; exact List.mem_cons_self ..)) 1 (by decide)
      rw [he]; exact this
    by_cases hx1 : p.ix.length = 1
    · obtain ⟨e, he⟩ : ∃ e, p.ix = [e] := by
        match h : p.ix, hx1 with
        | [e], _ => exact ⟨e, rfl⟩
      have hf := hfin e he
      rw [encK_eq] at hf
      generalize hfb : fit1 l p.ix 1 = fb at hf ⊢
      refine Pure.of (S := tt) (fn := Tryz.f73) (n := 62) tt_ok Tryz.func73 rfl rfl rfl rfl fun w0 h0 F hgs => ?_
      (repeat first|refine A.s rfl ?_|refine A.b rfl fun bx=>?_)
      refine A.draw 26 [0, 1, 2, 3, 4, 5, 6, 7, 8, 9, 10, 11, 12, 13, 14, 15, 16, 17, 18, 19, 20, 21, 22, 23, 24, 25] noPubs [] (by kernel_rfl) (by kernel_rfl) ?_
      (repeat first|refine WA.s rfl ?_|refine WA.r rfl rfl ?_)
      refine WA.valE 10 rfl (x' := AB false) (ab_eq (by simp; omega)) ?_
      (repeat first|refine WA.s rfl ?_|refine WA.r rfl rfl ?_)
      refine WA.valE 21 rfl (x' := AB false) (ab_eq (by rw [hlen]; simp; omega)) ?_
      (repeat first|refine WA.s rfl ?_|refine WA.r rfl rfl ?_)
      refine WA.x rfl hv0 (map_at hy) rfl rfl ?_
      (repeat refine WA.s rfl ?_)
      refine WA.nil (l := []) rfl ?_
      (repeat refine A.s rfl ?_)
      refine A.valE 34 rfl (x' := AB false) (ab_eq (by simp)) ?_
      (repeat refine A.s rfl ?_)
      refine A.draw 7 [0, 1, 2, 3, 4, 5, 6] noPubs [] (by kernel_rfl) (by kernel_rfl) ?_
      (repeat first|refine WA.s rfl ?_|refine WA.r rfl rfl ?_)
      refine WA.nil (l := []) rfl ?_
      skip
      refine A.x rfl hv0 (map_at hy) rfl rfl ?_
      (repeat refine A.s rfl ?_)
      refine A.valE 45 rfl (x' := AB false) (ab_eq (by simpa using hd)) ?_
      (repeat first|refine A.s rfl ?_|refine A.r rfl rfl ?_)
      refine A.valE 54 rfl (x' := AB true) (ab_eq (by rw [hxl]; simp [hx1])) ?_
      (repeat first|refine A.s rfl ?_|refine A.r rfl rfl ?_)
      refine A.x rfl (by decide) (show (encKl p.ix)[(0 : Int).toNat]? = some (encK e) from encKl_at (by rw [he]; rfl)) (encK_eq e) rfl ?_
      (repeat refine A.s rfl ?_)
      refine A.c rfl hf .refl ?_
      (repeat refine A.s rfl ?_); refine A.ret1 (Λ' := []) rfl rfl rfl (List.nil_sublist _) ⟨?_, rfl⟩; refine Sb.eq (ab_eq ?_); rw [if_neg hd, hx1]; simp
    · refine Pure.of (S := tt) (fn := Tryz.f73) (n := 62) tt_ok Tryz.func73 rfl rfl rfl rfl fun w0 h0 F hgs => ?_
      (repeat first|refine A.s rfl ?_|refine A.b rfl fun bx=>?_)
      refine A.draw 26 [0, 1, 2, 3, 4, 5, 6, 7, 8, 9, 10, 11, 12, 13, 14, 15, 16, 17, 18, 19, 20, 21, 22, 23, 24, 25] noPubs [] (by kernel_rfl) (by kernel_rfl) ?_
      (repeat first|refine WA.s rfl ?_|refine WA.r rfl rfl ?_)
      refine WA.valE 10 rfl (x' := AB false) (ab_eq (by simp; omega)) ?_
      (repeat first|refine WA.s rfl ?_|refine WA.r rfl rfl ?_)
      refine WA.valE 21 rfl (x' := AB false) (ab_eq (by rw [hlen]; simp; omega)) ?_
      (repeat first|refine WA.s rfl ?_|refine WA.r rfl rfl ?_)
      refine WA.x rfl hv0 (map_at hy) rfl rfl ?_
      (repeat refine WA.s rfl ?_)
      refine WA.nil (l := []) rfl ?_
      (repeat refine A.s rfl ?_)
      refine A.valE 34 rfl (x' := AB false) (ab_eq (by simp)) ?_
      (repeat refine A.s rfl ?_)
      refine A.draw 7 [0, 1, 2, 3, 4, 5, 6] noPubs [] (by kernel_rfl) (by kernel_rfl) ?_
      (repeat first|refine WA.s rfl ?_|refine WA.r rfl rfl ?_)
      refine WA.nil (l := []) rfl ?_
      skip
      refine A.x rfl hv0 (map_at hy) rfl rfl ?_
      (repeat refine A.s rfl ?_)
      refine A.valE 45 rfl (x' := AB false) (ab_eq (by simpa using hd)) ?_
      (repeat first|refine A.s rfl ?_|refine A.r rfl rfl ?_)
      refine A.valE 54 rfl (x' := AB false) (ab_eq (by rw [hxl]; simp; omega)) ?_
      (repeat refine A.s rfl ?_); refine A.ret1 (Λ' := []) rfl rfl rfl (List.nil_sublist _) ⟨?_, rfl⟩; refine Sb.eq (ab_eq ?_); rw [if_neg hd]; simp [hx1]
theorem input_p (l : List KV) (ch : List Int) (x : Nat → AV) (lf : Int) (hl : l.length ≤ 281474976710656) (hv : VarsOk l) (c item : Int) (to : PL) (hw : wfPl to) : Pure Tryz.prog gs0 75 [ckP l ch x lf, AI c, AU8 item, encPl to] (AB (inputB l ch.length c item to)) := by
  have hc := chan_p l ch x lf c item 1
  have hp := place_p l ch x lf hl hv to hw item
  unfold inputB
  generalize chanB ch.length c item 1 = b1 at hc ⊢
  generalize placeB l to item = b2 at hp ⊢
  cases b1
  all_goals refine Pure.of (S := tt) (fn := Tryz.f75) (n := 19) tt_ok Tryz.func75 rfl rfl rfl rfl fun w0 h0 F hgs => ?_
  all_goals (repeat' first|first|refine A.s rfl ?_|refine A.r rfl rfl ?_|refine A.w rfl rfl ?_|refine A.p rfl ?_|refine A.b rfl fun bx=>?_|refine A.t rfl fun bl=>?_|refine A.c rfl hc .refl ?_|refine A.c rfl hp .refl ?_)
  (all_goals (refine A.ret1 (Λ' := []) rfl rfl rfl (List.nil_sublist _) ⟨?_, rfl⟩; refine Sb.eq (ab_eq ?_)))
  all_goals simp_all
theorem plain16_p (g : GD) (input timed : Bool) : Pure Tryz.prog gs0 91 [cellsG g, AB input, AB timed] (AB (plainGB g input timed)) := by
  have n1 : ((encKl g.time.l).length : Int) = g.time.l.length := by rw [encKl_len]
  have n2 : ((encKl g.to.ix).length : Int) = g.to.ix.length := by rw [encKl_len]
  have hn : decide (g.time.l.length ≤ 0) = !decide (0 < ((encKl g.time.l).length : Int)) := by rw [n1, Bool.eq_iff_iff]; simp
  have hm : (g.to.ix.length == 0) = (((encKl g.to.ix).length : Int) == 0) := by rw [n2, Bool.eq_iff_iff]; simp
  unfold plainGB zeroE
  rw [hn, hm]
  cases input <;> cases timed
  all_goals refine Pure.of (S := tt) (fn := Tryz.f91) (n := 71) tt_ok Tryz.func91 rfl rfl rfl rfl fun w0 h0 F hgs => ?_
  all_goals (repeat' first|first|refine A.s rfl ?_|refine A.r rfl rfl ?_|refine A.w rfl rfl ?_|refine A.p rfl ?_|refine A.b rfl fun bx=>?_|refine A.t rfl fun bl=>?_|((fail_if_success (refine A.lit? rfl ?_)); refine A.gS rfl (fun hc => ?_) (fun hc => ?_))|((fail_if_success (refine A.litP? rfl ?_)); refine A.gSP rfl (fun hc => ?_) (fun hc => ?_)))
  (all_goals (refine A.ret1 (Λ' := []) rfl rfl rfl (List.nil_sublist _) ⟨?_, rfl⟩; refine Sb.eq (ab_eq ?_)))
  all_goals simp_all
end Go.Proofs.YtgmeahcclogfmaaGreatDoor
/-!
  Layer 16: guards and the checks of the kinds, by the program.
-/
namespace Go.Proofs.YtgmeahcclogfmaaGreatDoor
open Go Go.Tp
set_option linter.unusedVariables false
set_option linter.unusedSimpArgs false
set_option maxRecDepth 100000
set_option maxHeartbeats 4000000
theorem idxG_p (f : FuncId) (c : List AV) (p : GD → Bool) (l : List GD) (hcb : ∀ g, g ∈ l → Pure Tryz.prog gs0 f (cellsG g :: c) (AB (p g))) (hb : l.length ≤ 281474976710656) :
    Pure Tryz.prog gs0 90 [gsA l, .fn f [] c] (AI (idxF p l 0)) := by
  refine Pure.of (S := tt) (fn := Tryz.f90) (n := 19) tt_ok Tryz.func90 rfl rfl rfl rfl fun w0 h0 F hgs => ?_
  (repeat refine A.s rfl ?_)
  refine A.valE 7 rfl (x' := AI (l.length : Nat)) (ai_eq (by rw [encGl_len])) ?_
  refine A.keep [0, 1, 7, 8] rfl ?_
  refine A.loopP (ι := Nat) (fun i => (⟨[(0, gsA l), (1, .fn f [] c), (7, AI (l.length : Nat)), (8, AI (i : Int))], []⟩, [])) (fun i => i ≤ l.length ∧ idxF p l 0 = idxF p (l.drop i) i) (fun i => l.length - i) 0 ⟨by omega, rfl⟩ rfl fun i hi ih => ?_
  (repeat refine A.s rfl ?_)
  refine A.cond rfl (fun hc => ?_) (fun hc => ?_)
  · simp at hc
    refine Exists.elim (at_exN (l := l) (i := i) hc) fun x hx => ?_
    have hx1 := hcb x (List.mem_of_getElem? hx)
    (repeat refine A.s rfl ?_)
    refine A.x rfl (by omega) (encGl_at hx) (encG_eq x) rfl ?_
    (repeat refine A.s rfl ?_)
    refine A.c rfl hx1 SbL.refl ?_
    have h1 := hi.2
    rw [drop_at hx, idxF] at h1
    cases hp : p x with
    | true =>
      rw [hp] at h1
      (repeat refine A.s rfl ?_); refine A.ret1 (Λ' := []) rfl rfl rfl (List.nil_sublist _) ⟨?_, rfl⟩; rw [h1]; exact .refl
    | false =>
      rw [hp] at h1
      (repeat refine A.s rfl ?_)
      refine A.valE 8 rfl (x' := AI ((i + 1 : Nat) : Int)) (inc_eq i (by omega)) ?_
      refine A.sub (by repeat (first | exact trivial | refine ⟨⟨_, rfl, .refl⟩, ?_⟩)) (ih (i + 1) ⟨by omega, h1⟩ (by omega))
  · simp at hc
    have : i = l.length := by omega
    subst this
    (repeat refine A.s rfl ?_); refine A.ret1 (Λ' := []) rfl rfl rfl (List.nil_sublist _) ⟨?_, rfl⟩; rw [hi.2, List.drop_length]; exact .refl
theorem hasG_p (f : FuncId) (c : List AV) (p : GD → Bool) (l : List GD) (hcb : ∀ g, g ∈ l → Pure Tryz.prog gs0 f (cellsG g :: c) (AB (p g))) (hb : l.length ≤ 281474976710656) :
    Pure Tryz.prog gs0 77 [gsA l, .fn f [] c] (AB (l.any p)) := by
  refine Pure.of (S := tt) (fn := Tryz.f77) (n := 9) tt_ok Tryz.func77 rfl rfl rfl rfl fun w0 h0 F hgs => ?_
  (repeat refine A.s rfl ?_)
  refine A.c rfl (idxG_p f c p l hcb hb) .refl ?_
  (repeat refine A.s rfl ?_); refine A.ret1 (Λ' := []) rfl rfl rfl (List.nil_sublist _) ⟨?_, rfl⟩; refine Sb.eq (ab_eq ?_); exact idxF_any p l 0
theorem kfit_p (l : List KV) (ch : List Int) (x : Nat → AV) (lf : Int) (hl : l.length ≤ 281474976710656) (hv : VarsOk l) (e : KE) (hw : wfK e) (kind : Int) (hk : 1 ≤ kind ∧ kind ≤ 3) : Pure Tryz.prog gs0 74 [ckP l ch x lf, cellsK e, AU8 kind] (AB (fitV l e kind)) := by
  have := kfits_p l ch x lf hl hv e hw kind hk
  rw [encK_eq] at this
  exact this
theorem guard_p (l : List KV) (ch : List Int) (x : Nat → AV) (lf : Int) (hl : l.length ≤ 281474976710656) (hv : VarsOk l) (g : GD) (hw : WfG g) (choice : Bool) : Pure Tryz.prog gs0 79 [ckP l ch x lf, cellsG g, AB choice] (AB (guardB l ch.length g choice)) := by
  have hfc := kfit_p l ch x lf hl hv g.cond hw.cond 3 (by decide)
  have hft := kfit_p l ch x lf hl hv g.time hw.time 1 (by decide)
  have hin := input_p l ch x lf hl hv g.c g.item g.to hw.to
  have p1 := plain16_p g false false
  have p2 := plain16_p g true false
  have p3 := plain16_p g false true
  have hbl : (g.body.length == 1) = !(((encRl g.body).length : Int) != 1) := by rw [encRl_len, Bool.eq_iff_iff]; simp; omega
  unfold guardB
  rw [hbl]
  generalize fitV l g.cond 3 = b1 at hfc ⊢
  generalize fitV l g.time 1 = b2 at hft ⊢
  generalize inputB l ch.length g.c g.item g.to = b3 at hin ⊢
  generalize plainGB g false false = q1 at p1 ⊢
  generalize plainGB g true false = q2 at p2 ⊢
  generalize plainGB g false true = q3 at p3 ⊢
  clear hw hl hv
  obtain ⟨k, e, c, i, to, t, b⟩ := g
  by_cases k1 : k = 1
  · subst k1
    clear hft hin p2 p3
    simp only [true_or, if_true]
    cases choice
    all_goals refine Pure.of (S := tt) (fn := Tryz.f79) (n := 56) tt_ok Tryz.func79 rfl rfl rfl rfl fun w0 h0 F hgs => ?_
    all_goals (repeat' first|first|refine A.s rfl ?_|refine A.r rfl rfl ?_|refine A.w rfl rfl ?_|refine A.p rfl ?_|refine A.b rfl fun bx=>?_|refine A.t rfl fun bl=>?_|refine A.c rfl hfc .refl ?_|refine A.c rfl p1 .refl ?_|((fail_if_success (refine A.lit? rfl ?_)); refine A.gS rfl (fun hc => ?_) (fun hc => ?_))|((fail_if_success (refine A.litP? rfl ?_)); refine A.gSP rfl (fun hc => ?_) (fun hc => ?_)))
    (all_goals (refine A.ret1 (Λ' := []) rfl rfl rfl (List.nil_sublist _) ⟨?_, rfl⟩; refine Sb.eq (ab_eq ?_)))
    all_goals simp_all [GD.kind]
  by_cases k2 : k = 2
  · subst k2
    clear hft hin p2 p3
    simp only [or_true, if_true]
    cases choice
    all_goals refine Pure.of (S := tt) (fn := Tryz.f79) (n := 56) tt_ok Tryz.func79 rfl rfl rfl rfl fun w0 h0 F hgs => ?_
    all_goals (repeat' first|first|refine A.s rfl ?_|refine A.r rfl rfl ?_|refine A.w rfl rfl ?_|refine A.p rfl ?_|refine A.b rfl fun bx=>?_|refine A.t rfl fun bl=>?_|refine A.c rfl hfc .refl ?_|refine A.c rfl p1 .refl ?_|((fail_if_success (refine A.lit? rfl ?_)); refine A.gS rfl (fun hc => ?_) (fun hc => ?_))|((fail_if_success (refine A.litP? rfl ?_)); refine A.gSP rfl (fun hc => ?_) (fun hc => ?_)))
    (all_goals (refine A.ret1 (Λ' := []) rfl rfl rfl (List.nil_sublist _) ⟨?_, rfl⟩; refine Sb.eq (ab_eq ?_)))
    all_goals simp_all [GD.kind]
  rw [if_neg (fun h => h.elim k1 k2)]
  by_cases k3 : k = 3
  · subst k3
    clear hft p1 p3
    rw [if_pos rfl]
    cases choice
    all_goals refine Pure.of (S := tt) (fn := Tryz.f79) (n := 56) tt_ok Tryz.func79 rfl rfl rfl rfl fun w0 h0 F hgs => ?_
    all_goals (repeat' first|first|refine A.s rfl ?_|refine A.r rfl rfl ?_|refine A.w rfl rfl ?_|refine A.p rfl ?_|refine A.b rfl fun bx=>?_|refine A.t rfl fun bl=>?_|refine A.c rfl hfc .refl ?_|refine A.c rfl hin .refl ?_|refine A.c rfl p2 .refl ?_|((fail_if_success (refine A.lit? rfl ?_)); refine A.gS rfl (fun hc => ?_) (fun hc => ?_))|((fail_if_success (refine A.litP? rfl ?_)); refine A.gSP rfl (fun hc => ?_) (fun hc => ?_)))
    (all_goals (refine A.ret1 (Λ' := []) rfl rfl rfl (List.nil_sublist _) ⟨?_, rfl⟩; refine Sb.eq (ab_eq ?_)))
    all_goals simp_all [GD.kind]
  rw [if_neg k3]
  by_cases k4 : k = 4
  · subst k4
    clear hin p1 p2
    rw [if_pos rfl]
    cases choice
    all_goals refine Pure.of (S := tt) (fn := Tryz.f79) (n := 56) tt_ok Tryz.func79 rfl rfl rfl rfl fun w0 h0 F hgs => ?_
    all_goals (repeat' first|first|refine A.s rfl ?_|refine A.r rfl rfl ?_|refine A.w rfl rfl ?_|refine A.p rfl ?_|refine A.b rfl fun bx=>?_|refine A.t rfl fun bl=>?_|refine A.c rfl hfc .refl ?_|refine A.c rfl hft .refl ?_|refine A.c rfl p3 .refl ?_|((fail_if_success (refine A.lit? rfl ?_)); refine A.gS rfl (fun hc => ?_) (fun hc => ?_))|((fail_if_success (refine A.litP? rfl ?_)); refine A.gSP rfl (fun hc => ?_) (fun hc => ?_)))
    (all_goals (refine A.ret1 (Λ' := []) rfl rfl rfl (List.nil_sublist _) ⟨?_, rfl⟩; refine Sb.eq (ab_eq ?_)))
    all_goals simp_all [GD.kind]
  rw [if_neg k4, Bool.and_false]
  clear hft hin p1 p2 p3
  refine Pure.of (S := tt) (fn := Tryz.f79) (n := 56) tt_ok Tryz.func79 rfl rfl rfl rfl fun w0 h0 F hgs => ?_
  (repeat' first|first|refine A.s rfl ?_|refine A.r rfl rfl ?_|refine A.w rfl rfl ?_|refine A.p rfl ?_|refine A.b rfl fun bx=>?_|refine A.t rfl fun bl=>?_|refine A.c rfl hfc .refl ?_|refine A.cond rfl (fun h => (by simp [GD.kind] at h; omega)) (fun _ => ?_)|((fail_if_success (refine A.lit? rfl ?_)); refine A.gS rfl (fun hc => ?_) (fun hc => ?_))|((fail_if_success (refine A.litP? rfl ?_)); refine A.gSP rfl (fun hc => ?_) (fun hc => ?_)))
  (all_goals (refine A.ret1 (Λ' := []) rfl rfl rfl (List.nil_sublist _) ⟨?_, rfl⟩; refine Sb.eq (ab_eq ?_)))
  all_goals rfl
end Go.Proofs.YtgmeahcclogfmaaGreatDoor
/-!
  Layer 16: the checks of the kinds, by the program.
-/
namespace Go.Proofs.YtgmeahcclogfmaaGreatDoor
open Go Go.Tp
set_option linter.unusedVariables false
set_option linter.unusedSimpArgs false
set_option maxRecDepth 100000
set_option maxHeartbeats 4000000
section
variable (l : List KV) (ch : List Int)
/-! ### the kinds -/
variable (hl : l.length ≤ 281474976710656) (hv : VarsOk l)
def IsCheck (f : FuncId) (p : PR) : Prop := ∀ (x : Nat → AV) (lf : Int), Pure Tryz.prog gs0 f [ckP l ch x lf, cellsR p] (AB (kindB l ch.length p))
theorem nothing_p (p : PR) (hk : p.kind = 1 ∨ p.kind = 2) : IsCheck l ch 50 p := fun x lf => by
  have hs := shape_p p false false 0 0 0 0 0 0 0 0
  have he : kindB l ch.length p = shapeR p false false 0 0 0 0 0 0 0 0 := by rw [kindB, if_pos hk]
  rw [he]
  refine Pure.of (S := tt) (fn := Tryz.f50) (n := 11) tt_ok Tryz.func50 rfl rfl rfl rfl fun w0 h0 F hgs => ?_
  (repeat first|refine A.s rfl ?_|refine A.r rfl rfl ?_|refine A.b rfl fun bx=>?_); refine A.c rfl hs .refl ?_; (repeat refine A.s rfl ?_); refine A.ret1 (Λ' := []) rfl rfl rfl (List.nil_sublist _) ⟨?_, rfl⟩; exact .refl
theorem seq_p (p : PR) (hk : p.kind = 9) : IsCheck l ch 57 p := fun x lf => by
  have hs := shape_p p false false 0 0 0 0 0 0 0 2048
  have he : kindB l ch.length p = shapeR p false false 0 0 0 0 0 0 0 2048 := by simp [kindB, hk]
  rw [he]
  refine Pure.of (S := tt) (fn := Tryz.f57) (n := 11) tt_ok Tryz.func57 rfl rfl rfl rfl fun w0 h0 F hgs => ?_
  (repeat first|refine A.s rfl ?_|refine A.r rfl rfl ?_|refine A.b rfl fun bx=>?_); refine A.c rfl hs .refl ?_; (repeat refine A.s rfl ?_); refine A.ret1 (Λ' := []) rfl rfl rfl (List.nil_sublist _) ⟨?_, rfl⟩; exact .refl
theorem par_p (p : PR) (hk : p.kind = 10) : IsCheck l ch 58 p := fun x lf => by
  have hs := shape_p p false false 0 0 0 0 0 0 0 16
  have he : kindB l ch.length p = shapeR p false false 0 0 0 0 0 0 0 16 := by simp [kindB, hk]
  rw [he]
  refine Pure.of (S := tt) (fn := Tryz.f58) (n := 11) tt_ok Tryz.func58 rfl rfl rfl rfl fun w0 h0 F hgs => ?_
  (repeat first|refine A.s rfl ?_|refine A.r rfl rfl ?_|refine A.b rfl fun bx=>?_); refine A.c rfl hs .refl ?_; (repeat refine A.s rfl ?_); refine A.ret1 (Λ' := []) rfl rfl rfl (List.nil_sublist _) ⟨?_, rfl⟩; exact .refl
theorem pri_p (p : PR) (hk : p.kind = 11) : IsCheck l ch 59 p := fun x lf => by
  have hs := shape_p p false false 0 0 0 0 0 0 2 2
  have he : kindB l ch.length p = shapeR p false false 0 0 0 0 0 0 2 2 := by simp [kindB, hk]
  rw [he]
  refine Pure.of (S := tt) (fn := Tryz.f59) (n := 11) tt_ok Tryz.func59 rfl rfl rfl rfl fun w0 h0 F hgs => ?_
  (repeat first|refine A.s rfl ?_|refine A.r rfl rfl ?_|refine A.b rfl fun bx=>?_); refine A.c rfl hs .refl ?_; (repeat refine A.s rfl ?_); refine A.ret1 (Λ' := []) rfl rfl rfl (List.nil_sublist _) ⟨?_, rfl⟩; exact .refl
theorem clear_p (p : PR) (hk : p.kind = 3) : IsCheck l ch 51 p := fun x lf => by
  have hs := shape_p p false true 0 0 0 0 0 0 0 0
  have hlen : ((l.map encV).length : Int) = l.length := by rw [List.length_map]
  have he : kindB l ch.length p = (shapeR p false true 0 0 0 0 0 0 0 0 && decide (0 ≤ p.v) && decide (p.v < ((l.map encV).length : Int))) := by rw [hlen]; simp [kindB, hk]
  rw [he]
  generalize shapeR p false true 0 0 0 0 0 0 0 0 = b at hs ⊢
  refine Pure.of (S := tt) (fn := Tryz.f51) (n := 27) tt_ok Tryz.func51 rfl rfl rfl rfl fun w0 h0 F hgs => ?_
  (repeat first|refine A.s rfl ?_|refine A.b rfl fun bx=>?_)
  refine A.draw 20 [0, 1, 2, 3, 4, 5, 6, 7, 8, 9, 10, 11, 12, 13, 14, 15, 16, 17, 18, 19] noPubs [(5, AB b)] (by kernel_rfl) (by kernel_rfl) ?_
  (repeat first|refine WA.s rfl ?_|refine WA.r rfl rfl ?_)
  refine WA.c rfl rfl hs (.sub .refl) ?_
  (repeat refine WA.s rfl ?_)
  refine WA.gS rfl (fun hc => ?_) (fun hc => ?_)
  · (repeat first|refine WA.s rfl ?_|refine WA.r rfl rfl ?_)
    refine WA.gS rfl (fun hd => ?_) (fun hd => ?_)
    · (repeat first|refine WA.s rfl ?_|refine WA.r rfl rfl ?_)
      refine WA.nil (l := []) rfl ?_
      (repeat refine A.s rfl ?_); refine A.ret1 (Λ' := []) rfl rfl rfl (List.nil_sublist _) ⟨?_, rfl⟩; refine Sb.eq (ab_eq ?_); have hd : decide (0 ≤ p.v) = true := hd; rw [hc, hd]; rfl
    · (repeat refine WA.s rfl ?_)
      refine WA.nil (l := []) rfl ?_
      (repeat refine A.s rfl ?_); refine A.ret1 (Λ' := []) rfl rfl rfl (List.nil_sublist _) ⟨?_, rfl⟩; refine Sb.eq (ab_eq ?_); have hd : decide (0 ≤ p.v) = false := hd; rw [hc, hd]; rfl
  · (repeat refine WA.s rfl ?_)
    refine WA.nil (l := []) rfl ?_
    (repeat refine A.s rfl ?_); refine A.ret1 (Λ' := []) rfl rfl rfl (List.nil_sublist _) ⟨?_, rfl⟩; refine Sb.eq (ab_eq ?_); rw [hc]; rfl
theorem rng11 {n : Nat} (h : inB n 1 1 = true) : n = 1 := by
  simp only [inB, Bool.and_eq_true, decide_eq_true_eq] at h; omega
theorem shape_to {p : PR} {c v : Bool} {e1 e2 g1 g2 l1 l2 : Int} (h : shapeR p c v 1 1 e1 e2 g1 g2 l1 l2 = true) : ∃ t, p.to = [t] := by
  simp only [shapeR, Bool.and_eq_true] at h
  have := rng11 h.1.1.1.2
  match hh : p.to, this with
  | [t], _ => exact ⟨t, rfl⟩
theorem shape_e {p : PR} {c v : Bool} {t1 t2 g1 g2 l1 l2 : Int} (h : shapeR p c v t1 t2 1 1 g1 g2 l1 l2 = true) : ∃ t, p.e = [t] := by
  simp only [shapeR, Bool.and_eq_true] at h
  have := rng11 h.1.1.2
  match hh : p.e, this with
  | [t], _ => exact ⟨t, rfl⟩
include hl hv
theorem in16_p (p : PR) (hw : WfR p) (hk : p.kind = 5) : IsCheck l ch 53 p := fun x lf => by
  have hs := shape_p p true false 1 1 0 0 0 0 0 0
  have he : kindB l ch.length p = (shapeR p true false 1 1 0 0 0 0 0 0 && to1 (inputB l ch.length p.c p.item) p.to) := by simp [kindB, hk]
  rw [he]
  cases hb : shapeR p true false 1 1 0 0 0 0 0 0 with
  | false =>
    rw [hb] at hs
    refine Pure.of (S := tt) (fn := Tryz.f53) (n := 23) tt_ok Tryz.func53 rfl rfl rfl rfl fun w0 h0 F hgs => ?_
    (repeat first|refine A.s rfl ?_|refine A.b rfl fun bx=>?_)
    refine A.draw 16 [0, 1, 2, 3, 4, 5, 6, 7, 8, 9, 10, 11, 12, 13, 14, 15] noPubs [(5, AB false)] (by kernel_rfl) (by kernel_rfl) ?_
    (repeat first|refine WA.s rfl ?_|refine WA.r rfl rfl ?_)
    refine WA.c rfl rfl hs (.sub .refl) ?_
    (repeat refine WA.s rfl ?_)
    refine WA.nil (l := []) rfl ?_
    (repeat refine A.s rfl ?_); refine A.ret1 (Λ' := []) rfl rfl rfl (List.nil_sublist _) ⟨?_, rfl⟩; exact .refl
  | true =>
    rw [hb] at hs
    obtain ⟨t, ht⟩ := shape_to hb
    have hin := input_p l ch x lf hl hv p.c p.item t (hw.to t (by rw [ht]; exact List.mem_cons_self ..))
    have h1 : to1 (inputB l ch.length p.c p.item) p.to = inputB l ch.length p.c p.item t := by rw [ht]; rfl
    rw [h1]
    refine Pure.of (S := tt) (fn := Tryz.f53) (n := 23) tt_ok Tryz.func53 rfl rfl rfl rfl fun w0 h0 F hgs => ?_
    (repeat first|refine A.s rfl ?_|refine A.b rfl fun bx=>?_)
    refine A.draw 16 [0, 1, 2, 3, 4, 5, 6, 7, 8, 9, 10, 11, 12, 13, 14, 15] noPubs [(5, AB true)] (by kernel_rfl) (by kernel_rfl) ?_
    (repeat first|refine WA.s rfl ?_|refine WA.r rfl rfl ?_)
    refine WA.c rfl rfl hs (.sub .refl) ?_
    (repeat first|refine WA.s rfl ?_|refine WA.r rfl rfl ?_)
    refine WA.x rfl (by decide) (show (p.to.map encPl)[(0 : Int).toNat]? = some (encPl t) from map_at (by rw [ht]; rfl)) rfl rfl ?_
    (repeat refine WA.s rfl ?_)
    refine WA.nil (l := []) rfl ?_
    skip
    refine A.c rfl hin .refl ?_
    (repeat refine A.s rfl ?_); refine A.ret1 (Λ' := []) rfl rfl rfl (List.nil_sublist _) ⟨?_, rfl⟩; exact .refl
omit hl hv in
theorem out_a (p : PR) (x : Nat → AV) (lf : Int) (hs : Pure Tryz.prog gs0 72 [cellsR p, AB true, AB false, twoA 0 0, twoA 1 1, twoA 0 0, twoA 0 0] (AB false)) : Pure Tryz.prog gs0 54 [ckP l ch x lf, cellsR p] (AB false) := by
  refine Pure.of (S := tt) (fn := Tryz.f54) (n := 29) tt_ok Tryz.func54 rfl rfl rfl rfl fun w0 h0 F hgs => ?_
  (repeat first|refine A.s rfl ?_|refine A.b rfl fun bx=>?_)
  refine A.draw 22 [0, 1, 2, 3, 4, 5, 6, 7, 8, 9, 10, 11, 12, 13, 14, 15, 16, 17, 18, 19, 20, 21] noPubs [(5, AB false), (12, AB false)] (by kernel_rfl) (by kernel_rfl) ?_
  (repeat first|refine WA.s rfl ?_|refine WA.r rfl rfl ?_)
  refine WA.c rfl rfl hs (.sub .refl) ?_
  (repeat refine WA.s rfl ?_)
  refine WA.nil (l := []) rfl ?_
  (repeat refine A.s rfl ?_); refine A.ret1 (Λ' := []) rfl rfl rfl (List.nil_sublist _) ⟨?_, rfl⟩; exact .refl
omit hl hv in
theorem out_b (p : PR) (x : Nat → AV) (lf : Int) (hs : Pure Tryz.prog gs0 72 [cellsR p, AB true, AB false, twoA 0 0, twoA 1 1, twoA 0 0, twoA 0 0] (AB true)) (hch : Pure Tryz.prog gs0 76 [ckP l ch x lf, AI p.c, AU8 p.item, AI 0] (AB false)) :
    Pure Tryz.prog gs0 54 [ckP l ch x lf, cellsR p] (AB false) := by
  refine Pure.of (S := tt) (fn := Tryz.f54) (n := 29) tt_ok Tryz.func54 rfl rfl rfl rfl fun w0 h0 F hgs => ?_
  (repeat first|refine A.s rfl ?_|refine A.b rfl fun bx=>?_)
  refine A.draw 22 [0, 1, 2, 3, 4, 5, 6, 7, 8, 9, 10, 11, 12, 13, 14, 15, 16, 17, 18, 19, 20, 21] noPubs [(5, AB true), (12, AB false)] (by kernel_rfl) (by kernel_rfl) ?_
  (repeat first|refine WA.s rfl ?_|refine WA.r rfl rfl ?_)
  refine WA.c rfl rfl hs (.sub .refl) ?_
  (repeat first|refine WA.s rfl ?_|refine WA.r rfl rfl ?_)
  refine WA.c rfl rfl hch (.sub .refl) ?_
  (repeat refine WA.s rfl ?_)
  refine WA.nil (l := []) rfl ?_
  (repeat refine A.s rfl ?_); refine A.ret1 (Λ' := []) rfl rfl rfl (List.nil_sublist _) ⟨?_, rfl⟩; exact .refl
omit hl hv in
theorem out_c (p : PR) (x : Nat → AV) (lf : Int) (e : KE) (bf : Bool) (he : (encKl p.e)[(0 : Int).toNat]? = some (encK e)) (hs : Pure Tryz.prog gs0 72 [cellsR p, AB true, AB false, twoA 0 0, twoA 1 1, twoA 0 0, twoA 0 0] (AB true)) (hch : Pure Tryz.prog gs0 76 [ckP l ch x lf, AI p.c, AU8 p.item, AI 0] (AB true))
    (hf : Pure Tryz.prog gs0 74 [ckP l ch x lf, cellsK e, AU8 p.item] (AB bf)) : Pure Tryz.prog gs0 54 [ckP l ch x lf, cellsR p] (AB bf) := by
  refine Pure.of (S := tt) (fn := Tryz.f54) (n := 29) tt_ok Tryz.func54 rfl rfl rfl rfl fun w0 h0 F hgs => ?_
  (repeat first|refine A.s rfl ?_|refine A.b rfl fun bx=>?_)
  refine A.draw 22 [0, 1, 2, 3, 4, 5, 6, 7, 8, 9, 10, 11, 12, 13, 14, 15, 16, 17, 18, 19, 20, 21] noPubs [(5, AB true), (12, AB true)] (by kernel_rfl) (by kernel_rfl) ?_
  (repeat first|refine WA.s rfl ?_|refine WA.r rfl rfl ?_)
  refine WA.c rfl rfl hs (.sub .refl) ?_
  (repeat first|refine WA.s rfl ?_|refine WA.r rfl rfl ?_)
  refine WA.c rfl rfl hch (.sub .refl) ?_
  (repeat first|refine WA.s rfl ?_|refine WA.r rfl rfl ?_)
  refine WA.x rfl (by decide) he (encK_eq e) rfl ?_
  (repeat first|refine WA.s rfl ?_|refine WA.r rfl rfl ?_)
  refine WA.nil (l := []) rfl ?_
  skip
  refine A.c rfl hf .refl ?_
  (repeat refine A.s rfl ?_); refine A.ret1 (Λ' := []) rfl rfl rfl (List.nil_sublist _) ⟨?_, rfl⟩; exact .refl
theorem out16_p (p : PR) (hw : WfR p) (hk : p.kind = 6) : IsCheck l ch 54 p := fun x lf => by
  have hs := shape_p p true false 0 0 1 1 0 0 0 0
  have he : kindB l ch.length p = (shapeR p true false 0 0 1 1 0 0 0 0 && chanB ch.length p.c p.item 0 && fit1 l p.e p.item) := by simp [kindB, hk]
  rw [he]
  cases hb : shapeR p true false 0 0 1 1 0 0 0 0 with
  | false => rw [hb] at hs; exact out_a l ch p x lf hs
  | true =>
  rw [hb] at hs
  obtain ⟨e, ht⟩ := shape_e hb
  have hch := chan_p l ch x lf p.c p.item 0
  have h1 : fit1 l p.e p.item = fitV l e p.item := by rw [ht]; rfl
  rw [h1]
  cases hc : chanB ch.length p.c p.item 0 with
  | false => rw [hc] at hch; exact out_b l ch p x lf hs hch
  | true =>
    rw [hc] at hch
    have hpi : 1 ≤ p.item ∧ p.item ≤ 3 := by simp only [chanB, primB, Bool.and_eq_true, decide_eq_true_eq] at hc; omega
    have hf := kfit_p l ch x lf hl hv e (hw.e e (by rw [ht]; exact List.mem_cons_self ..)) p.item hpi
    rw [Bool.and_self, Bool.true_and]
    exact out_c l ch p x lf e _ (encKl_at (by rw [ht]; rfl)) hs hch hf
theorem time16_p (p : PR) (hw : WfR p) (hk : p.kind = 7) : IsCheck l ch 55 p := fun x lf => by
  have hs := shape_p p false false 1 1 0 0 0 0 0 0
  have he : kindB l ch.length p = (shapeR p false false 1 1 0 0 0 0 0 0 && to1 (fun t => placeB l t 1) p.to) := by simp [kindB, hk]
  rw [he]
  cases hb : shapeR p false false 1 1 0 0 0 0 0 0 with
  | false =>
    rw [hb] at hs
    refine Pure.of (S := tt) (fn := Tryz.f55) (n := 19) tt_ok Tryz.func55 rfl rfl rfl rfl fun w0 h0 F hgs => ?_
    (repeat first|refine A.s rfl ?_|refine A.r rfl rfl ?_|refine A.b rfl fun bx=>?_); refine A.c rfl hs .refl ?_; (repeat refine A.s rfl ?_); refine A.ret1 (Λ' := []) rfl rfl rfl (List.nil_sublist _) ⟨?_, rfl⟩; exact .refl
  | true =>
    rw [hb] at hs
    obtain ⟨t, ht⟩ := shape_to hb
    have hin := place_p l ch x lf hl hv t (hw.to t (by rw [ht]; exact List.mem_cons_self ..)) 1
    have h1 : to1 (fun t => placeB l t 1) p.to = placeB l t 1 := by rw [ht]; rfl
    rw [h1]
    refine Pure.of (S := tt) (fn := Tryz.f55) (n := 19) tt_ok Tryz.func55 rfl rfl rfl rfl fun w0 h0 F hgs => ?_
    (repeat first|refine A.s rfl ?_|refine A.r rfl rfl ?_|refine A.b rfl fun bx=>?_); refine A.c rfl hs .refl ?_; (repeat first|refine A.s rfl ?_|refine A.r rfl rfl ?_)
    refine A.x rfl (by decide) (show (p.to.map encPl)[(0 : Int).toNat]? = some (encPl t) from map_at (by rw [ht]; rfl)) rfl rfl ?_
    (repeat refine A.s rfl ?_); refine A.c rfl hin .refl ?_; (repeat refine A.s rfl ?_); refine A.ret1 (Λ' := []) rfl rfl rfl (List.nil_sublist _) ⟨?_, rfl⟩; exact .refl
theorem after16_p (p : PR) (hw : WfR p) (hk : p.kind = 8) : IsCheck l ch 56 p := fun x lf => by
  have hs := shape_p p false false 0 0 1 1 0 0 0 0
  have he : kindB l ch.length p = (shapeR p false false 0 0 1 1 0 0 0 0 && fit1 l p.e 1) := by simp [kindB, hk]
  rw [he]
  cases hb : shapeR p false false 0 0 1 1 0 0 0 0 with
  | false =>
    rw [hb] at hs
    refine Pure.of (S := tt) (fn := Tryz.f56) (n := 19) tt_ok Tryz.func56 rfl rfl rfl rfl fun w0 h0 F hgs => ?_
    (repeat first|refine A.s rfl ?_|refine A.r rfl rfl ?_|refine A.b rfl fun bx=>?_); refine A.c rfl hs .refl ?_; (repeat refine A.s rfl ?_); refine A.ret1 (Λ' := []) rfl rfl rfl (List.nil_sublist _) ⟨?_, rfl⟩; exact .refl
  | true =>
    rw [hb] at hs
    obtain ⟨e, ht⟩ := shape_e hb
    have hin := kfit_p l ch x lf hl hv e (hw.e e (by rw [ht]; exact List.mem_cons_self ..)) 1 (by decide)
    have h1 : fit1 l p.e 1 = fitV l e 1 := by rw [ht]; rfl
    rw [h1]
    refine Pure.of (S := tt) (fn := Tryz.f56) (n := 19) tt_ok Tryz.func56 rfl rfl rfl rfl fun w0 h0 F hgs => ?_
    (repeat first|refine A.s rfl ?_|refine A.r rfl rfl ?_|refine A.b rfl fun bx=>?_); refine A.c rfl hs .refl ?_; (repeat first|refine A.s rfl ?_|refine A.r rfl rfl ?_)
    refine A.x rfl (by decide) (show (encKl p.e)[(0 : Int).toNat]? = some (encK e) from encKl_at (by rw [ht]; rfl)) (encK_eq e) rfl ?_
    (repeat refine A.s rfl ?_); refine A.c rfl hin .refl ?_; (repeat refine A.s rfl ?_); refine A.ret1 (Λ' := []) rfl rfl rfl (List.nil_sublist _) ⟨?_, rfl⟩; exact .refl
theorem loop16_p (p : PR) (hw : WfR p) (hk : p.kind = 13) : IsCheck l ch 61 p := fun x lf => by
  have hs := shape_p p false false 0 0 1 1 0 0 1 1
  have he : kindB l ch.length p = (shapeR p false false 0 0 1 1 0 0 1 1 && fit1 l p.e 3) := by simp [kindB, hk]
  rw [he]
  cases hb : shapeR p false false 0 0 1 1 0 0 1 1 with
  | false =>
    rw [hb] at hs
    refine Pure.of (S := tt) (fn := Tryz.f61) (n := 19) tt_ok Tryz.func61 rfl rfl rfl rfl fun w0 h0 F hgs => ?_
    (repeat first|refine A.s rfl ?_|refine A.r rfl rfl ?_|refine A.b rfl fun bx=>?_); refine A.c rfl hs .refl ?_; (repeat refine A.s rfl ?_); refine A.ret1 (Λ' := []) rfl rfl rfl (List.nil_sublist _) ⟨?_, rfl⟩; exact .refl
  | true =>
    rw [hb] at hs
    obtain ⟨e, ht⟩ := shape_e hb
    have hin := kfit_p l ch x lf hl hv e (hw.e e (by rw [ht]; exact List.mem_cons_self ..)) 3 (by decide)
    have h1 : fit1 l p.e 3 = fitV l e 3 := by rw [ht]; rfl
    rw [h1]
    refine Pure.of (S := tt) (fn := Tryz.f61) (n := 19) tt_ok Tryz.func61 rfl rfl rfl rfl fun w0 h0 F hgs => ?_
    (repeat first|refine A.s rfl ?_|refine A.r rfl rfl ?_|refine A.b rfl fun bx=>?_); refine A.c rfl hs .refl ?_; (repeat first|refine A.s rfl ?_|refine A.r rfl rfl ?_)
    refine A.x rfl (by decide) (show (encKl p.e)[(0 : Int).toNat]? = some (encK e) from encKl_at (by rw [ht]; rfl)) (encK_eq e) rfl ?_
    (repeat refine A.s rfl ?_); refine A.c rfl hin .refl ?_; (repeat refine A.s rfl ?_); refine A.ret1 (Λ' := []) rfl rfl rfl (List.nil_sublist _) ⟨?_, rfl⟩; exact .refl
theorem choice1_p (x : Nat → AV) (lf : Int) (p : PR) (g : GD) (hw : WfG g) : Pure Tryz.prog gs0 78 [cellsG g, .pe 1 (ckP l ch x lf), .pe 8 (cellsR p)] (AB (!guardB l ch.length g (p.kind == 12))) := by
  have hg := guard_p l ch x lf hl hv g hw (p.kind == 12)
  refine Pure.of (S := tt) (fn := Tryz.f78) (n := 12) tt_ok Tryz.func78 rfl rfl rfl rfl fun w0 h0 F hgs => ?_
  (repeat first|refine A.s rfl ?_|refine A.r rfl rfl ?_|refine A.b rfl fun bx=>?_); refine A.c rfl hg .refl ?_; (repeat refine A.s rfl ?_); refine A.ret1 (Λ' := []) rfl rfl rfl (List.nil_sublist _) ⟨?_, rfl⟩; exact .refl
theorem choice16_p (p : PR) (hw : WfR p) (hk : p.kind = 12 ∨ p.kind = 14 ∨ p.kind = 15) : IsCheck l ch 60 p := fun x lf => by
  have hs := shape_p p false false 0 0 0 0 0 16 0 0
  have he : kindB l ch.length p = (shapeR p false false 0 0 0 0 0 16 0 0 && !p.gs.any fun g => !guardB l ch.length g (p.kind == 12)) := by
    rw [List.not_any_eq_all_not]; rcases hk with hk | hk | hk <;> simp [kindB, hk]
  rw [he]
  have hg := hasG_p 78 [.pe 1 (ckP l ch x lf), .pe 8 (cellsR p)] (fun g => !guardB l ch.length g (p.kind == 12)) p.gs (fun g hgm => choice1_p l ch hl hv x lf p g (wfG_all (hw.g g hgm))) hw.gl
  cases hb : shapeR p false false 0 0 0 0 0 16 0 0 with
  | false =>
    rw [hb] at hs
    refine Pure.of (S := tt) (fn := Tryz.f60) (n := 17) tt_ok Tryz.func60 rfl rfl rfl rfl fun w0 h0 F hgs => ?_
    (repeat first|refine A.s rfl ?_|refine A.r rfl rfl ?_|refine A.b rfl fun bx=>?_); refine A.c rfl hs .refl ?_; (repeat refine A.s rfl ?_); refine A.ret1 (Λ' := []) rfl rfl rfl (List.nil_sublist _) ⟨?_, rfl⟩; exact .refl
  | true =>
    rw [hb] at hs
    refine Pure.of (S := tt) (fn := Tryz.f60) (n := 17) tt_ok Tryz.func60 rfl rfl rfl rfl fun w0 h0 F hgs => ?_
    (repeat first|refine A.s rfl ?_|refine A.r rfl rfl ?_|refine A.b rfl fun bx=>?_); refine A.c rfl hs .refl ?_
    refine A.freeze 2 (sz := 1) rfl rfl rfl ?_
    refine A.freeze 3 (sz := 8) rfl rfl rfl ?_
    (repeat refine A.s rfl ?_); refine A.c rfl hg .refl ?_
    (repeat refine A.s rfl ?_); refine A.ret1 (Λ' := []) rfl rfl rfl (List.nil_sublist _) ⟨?_, rfl⟩; exact .refl
end
end Go.Proofs.YtgmeahcclogfmaaGreatDoor
