/-
  Layer 10 by the document: valid expressions.
-/
import Derived.Test.YtlnbmocgnkjlfaaGreatQ10b
import Derived.Test.YtlnbmocgnkjlfaaGreatQ08r
import Derived.Test.YtlnbmocgnkjlfaaGreatLd

namespace Go.Proofs.YtlnbmocgnkjlfaaGreat
open Go Go.Tp
set_option linter.unusedVariables false
set_option linter.unusedSimpArgs false
set_option maxRecDepth 100000
set_option maxHeartbeats 4000000

theorem prim10_p (k : Int) : Pure Tryz.prog gs0 91 [AU8 k] (AB (decide (1 ≤ k ∧ k ≤ 3))) := by
  refine Pure.of (S := tt) (fn := Tryz.f91) (n := 13) tt_ok Tryz.func91 rfl rfl rfl rfl fun w0 h0 F hgs => ?_
  (repeat' first|refine A.s rfl ?_|refine A.r rfl rfl ?_|refine A.w rfl rfl ?_|refine A.p rfl ?_|refine A.b rfl fun bx=>?_|refine A.t rfl fun bl=>?_|((fail_if_success (refine A.lit? rfl ?_)); refine A.gS rfl (fun hc => ?_) (fun hc => ?_))|((fail_if_success (refine A.litP? rfl ?_)); refine A.gSP rfl (fun hc => ?_) (fun hc => ?_)))
  all_goals (refine A.ret1 (Λ' := []) rfl rfl rfl (List.nil_sublist _) ⟨?_, rfl⟩; refine Sb.eq (ab_eq ?_); rw [Bool.eq_iff_iff]; simp at *; omega)
theorem shape_def (e : XE) : shapeX e = ((partsM e.kind e.oper e.to e.n e.s).2 && decide ((e.l.length : Int) = (partsM e.kind e.oper e.to e.n e.s).1)) := rfl
theorem own_p (e : XE) (hw : wfX e) : Pure Tryz.prog gs0 64 [encX e] (AB (shapeX e)) := by
  obtain ⟨k, o, t, n, s, l⟩ := e
  have hlen : ((encXl l).length : Int) = l.length := by rw [encXl_len]
  have hs : s.length ≤ 281474976710656 := by rw [wfX] at hw; exact hw.1.2.2.2.2.1
  have hn := name8_p s hs
  rw [nameR_eq] at hn
  have hp := prim10_p t
  rw [encX]
  by_cases h1 : k = 1
  · subst h1
    have hpm : partsM 1 o t n s = (0, o == 0 && t == 0 && decide (s = [])) := rfl
    refine Pure.of (S := tt) (fn := Tryz.f64) (n := 129) tt_ok Tryz.func64 rfl rfl rfl rfl fun w0 h0 F hgs => ?_
    ((repeat first|refine A.s rfl ?_|refine A.r rfl rfl ?_|refine A.w rfl rfl ?_|refine A.p rfl ?_|refine A.b rfl fun bx=>?_|refine A.t rfl fun bl=>?_|refine A.step rfl ?_|refine A.v rfl rfl ?_); refine A.ret1 (Λ' := []) rfl rfl rfl (List.nil_sublist _) ⟨?_, rfl⟩; refine Sb.eq (ab_eq ?_); rw [shape_def])
    (show _ = ((partsM _ o t n s).2 && decide ((l.length : Int) = (partsM _ o t n s).1)); rw [hpm]; clear hn hp hw hgs; rw [Bool.eq_iff_iff]; simp [nil_eq, hlen]; try (first | (intros; omega) | (constructor <;> (intro h; simp_all; try omega))))
  by_cases h2 : k = 2
  · subst h2
    by_cases hr : 0 ≤ n ∧ n ≤ 255
    · have hpm : partsM 2 o t n s = (0, o == 0 && t == 0 && decide (s = [])) := by show (if 0 ≤ n ∧ n ≤ 255 then _ else _) = _; rw [if_pos hr]
      skip
      refine Pure.of (S := tt) (fn := Tryz.f64) (n := 129) tt_ok Tryz.func64 rfl rfl rfl rfl fun w0 h0 F hgs => ?_
      ((repeat first|refine A.s rfl ?_|refine A.r rfl rfl ?_|refine A.w rfl rfl ?_|refine A.p rfl ?_|refine A.b rfl fun bx=>?_|refine A.t rfl fun bl=>?_|refine A.step rfl ?_|refine A.v rfl rfl ?_); refine A.ret1 (Λ' := []) rfl rfl rfl (List.nil_sublist _) ⟨?_, rfl⟩; refine Sb.eq (ab_eq ?_); rw [shape_def])
      (show _ = ((partsM _ o t n s).2 && decide ((l.length : Int) = (partsM _ o t n s).1)); rw [hpm]; clear hn hp hw hgs; rw [Bool.eq_iff_iff]; simp [nil_eq, hlen]; try (first | (intros; omega) | (constructor <;> (intro h; simp_all; try omega))))
    · have hpm : partsM 2 o t n s = (0, false) := by show (if 0 ≤ n ∧ n ≤ 255 then _ else _) = _; rw [if_neg hr]
      skip
      refine Pure.of (S := tt) (fn := Tryz.f64) (n := 129) tt_ok Tryz.func64 rfl rfl rfl rfl fun w0 h0 F hgs => ?_
      ((repeat first|refine A.s rfl ?_|refine A.r rfl rfl ?_|refine A.w rfl rfl ?_|refine A.p rfl ?_|refine A.b rfl fun bx=>?_|refine A.t rfl fun bl=>?_|refine A.step rfl ?_|refine A.v rfl rfl ?_); refine A.ret1 (Λ' := []) rfl rfl rfl (List.nil_sublist _) ⟨?_, rfl⟩; refine Sb.eq (ab_eq ?_); rw [shape_def])
      (show _ = ((partsM _ o t n s).2 && decide ((l.length : Int) = (partsM _ o t n s).1)); rw [hpm]; clear hn hp hw hgs; rw [Bool.eq_iff_iff]; simp [nil_eq, hlen]; try (first | (intros; omega) | (constructor <;> (intro h; simp_all; try omega))))
  by_cases h3 : k = 3
  · subst h3
    by_cases hr : 0 ≤ n ∧ n ≤ 1
    · have hpm : partsM 3 o t n s = (0, o == 0 && t == 0 && decide (s = [])) := by show (if 0 ≤ n ∧ n ≤ 1 then _ else _) = _; rw [if_pos hr]
      have hr2 : n = 0 ∨ n = 1 := by omega
      refine Pure.of (S := tt) (fn := Tryz.f64) (n := 129) tt_ok Tryz.func64 rfl rfl rfl rfl fun w0 h0 F hgs => ?_
      ((repeat first|refine A.s rfl ?_|refine A.r rfl rfl ?_|refine A.w rfl rfl ?_|refine A.p rfl ?_|refine A.b rfl fun bx=>?_|refine A.t rfl fun bl=>?_|refine A.step rfl ?_|refine A.v rfl rfl ?_); refine A.ret1 (Λ' := []) rfl rfl rfl (List.nil_sublist _) ⟨?_, rfl⟩; refine Sb.eq (ab_eq ?_); rw [shape_def])
      (show _ = ((partsM _ o t n s).2 && decide ((l.length : Int) = (partsM _ o t n s).1)); rw [hpm]; clear hn hp hw hgs; rw [Bool.eq_iff_iff]; simp [nil_eq, hlen]; try (first | (intros; omega) | (constructor <;> (intro h; simp_all; try omega))))
    · have hpm : partsM 3 o t n s = (0, false) := by show (if 0 ≤ n ∧ n ≤ 1 then _ else _) = _; rw [if_neg hr]
      have hr2 : ¬ (n = 0 ∨ n = 1) := by omega
      refine Pure.of (S := tt) (fn := Tryz.f64) (n := 129) tt_ok Tryz.func64 rfl rfl rfl rfl fun w0 h0 F hgs => ?_
      ((repeat first|refine A.s rfl ?_|refine A.r rfl rfl ?_|refine A.w rfl rfl ?_|refine A.p rfl ?_|refine A.b rfl fun bx=>?_|refine A.t rfl fun bl=>?_|refine A.step rfl ?_|refine A.v rfl rfl ?_); refine A.ret1 (Λ' := []) rfl rfl rfl (List.nil_sublist _) ⟨?_, rfl⟩; refine Sb.eq (ab_eq ?_); rw [shape_def])
      (show _ = ((partsM _ o t n s).2 && decide ((l.length : Int) = (partsM _ o t n s).1)); rw [hpm]; clear hn hp hw hgs; rw [Bool.eq_iff_iff]; simp [nil_eq, hlen]; try (first | (intros; omega) | (constructor <;> (intro h; simp_all; try omega))))
  by_cases h4 : k = 4
  · subst h4
    cases hnb : nameB s with
    | true =>
      rw [hnb] at hn
      have hpm : partsM 4 o t n s = (0, o == 0 && t == 0 && n == 0) := by show (if nameB s then _ else _) = _; rw [hnb]; rfl
      refine Pure.of (S := tt) (fn := Tryz.f64) (n := 129) tt_ok Tryz.func64 rfl rfl rfl rfl fun w0 h0 F hgs => ?_
      (repeat first|refine A.s rfl ?_|refine A.r rfl rfl ?_|refine A.w rfl rfl ?_|refine A.p rfl ?_|refine A.b rfl fun bx=>?_|refine A.t rfl fun bl=>?_); refine A.c rfl hn .refl ?_
      ((repeat first|refine A.s rfl ?_|refine A.r rfl rfl ?_|refine A.w rfl rfl ?_|refine A.p rfl ?_|refine A.b rfl fun bx=>?_|refine A.t rfl fun bl=>?_|refine A.step rfl ?_|refine A.v rfl rfl ?_); refine A.ret1 (Λ' := []) rfl rfl rfl (List.nil_sublist _) ⟨?_, rfl⟩; refine Sb.eq (ab_eq ?_); rw [shape_def])
      (show _ = ((partsM _ o t n s).2 && decide ((l.length : Int) = (partsM _ o t n s).1)); rw [hpm]; clear hn hp hw hgs; rw [Bool.eq_iff_iff]; simp [nil_eq, hlen]; try (first | (intros; omega) | (constructor <;> (intro h; simp_all; try omega))))
    | false =>
      rw [hnb] at hn
      have hpm : partsM 4 o t n s = (0, false) := by show (if nameB s then _ else _) = _; rw [hnb]; rfl
      refine Pure.of (S := tt) (fn := Tryz.f64) (n := 129) tt_ok Tryz.func64 rfl rfl rfl rfl fun w0 h0 F hgs => ?_
      (repeat first|refine A.s rfl ?_|refine A.r rfl rfl ?_|refine A.w rfl rfl ?_|refine A.p rfl ?_|refine A.b rfl fun bx=>?_|refine A.t rfl fun bl=>?_); refine A.c rfl hn .refl ?_
      ((repeat first|refine A.s rfl ?_|refine A.r rfl rfl ?_|refine A.w rfl rfl ?_|refine A.p rfl ?_|refine A.b rfl fun bx=>?_|refine A.t rfl fun bl=>?_|refine A.step rfl ?_|refine A.v rfl rfl ?_); refine A.ret1 (Λ' := []) rfl rfl rfl (List.nil_sublist _) ⟨?_, rfl⟩; refine Sb.eq (ab_eq ?_); rw [shape_def])
      (show _ = ((partsM _ o t n s).2 && decide ((l.length : Int) = (partsM _ o t n s).1)); rw [hpm]; clear hn hp hw hgs; rw [Bool.eq_iff_iff]; simp [nil_eq, hlen]; try (first | (intros; omega) | (constructor <;> (intro h; simp_all; try omega))))
  by_cases h9 : k = 9
  · subst h9
    cases hnb : nameB s with
    | true =>
      rw [hnb] at hn
      have hpm : partsM 9 o t n s = (0, o == 0 && t == 0 && n == 0) := by show (if nameB s then _ else _) = _; rw [hnb]; rfl
      refine Pure.of (S := tt) (fn := Tryz.f64) (n := 129) tt_ok Tryz.func64 rfl rfl rfl rfl fun w0 h0 F hgs => ?_
      (repeat first|refine A.s rfl ?_|refine A.r rfl rfl ?_|refine A.w rfl rfl ?_|refine A.p rfl ?_|refine A.b rfl fun bx=>?_|refine A.t rfl fun bl=>?_); refine A.c rfl hn .refl ?_
      ((repeat first|refine A.s rfl ?_|refine A.r rfl rfl ?_|refine A.w rfl rfl ?_|refine A.p rfl ?_|refine A.b rfl fun bx=>?_|refine A.t rfl fun bl=>?_|refine A.step rfl ?_|refine A.v rfl rfl ?_); refine A.ret1 (Λ' := []) rfl rfl rfl (List.nil_sublist _) ⟨?_, rfl⟩; refine Sb.eq (ab_eq ?_); rw [shape_def])
      (show _ = ((partsM _ o t n s).2 && decide ((l.length : Int) = (partsM _ o t n s).1)); rw [hpm]; clear hn hp hw hgs; rw [Bool.eq_iff_iff]; simp [nil_eq, hlen]; try (first | (intros; omega) | (constructor <;> (intro h; simp_all; try omega))))
    | false =>
      rw [hnb] at hn
      have hpm : partsM 9 o t n s = (0, false) := by show (if nameB s then _ else _) = _; rw [hnb]; rfl
      refine Pure.of (S := tt) (fn := Tryz.f64) (n := 129) tt_ok Tryz.func64 rfl rfl rfl rfl fun w0 h0 F hgs => ?_
      (repeat first|refine A.s rfl ?_|refine A.r rfl rfl ?_|refine A.w rfl rfl ?_|refine A.p rfl ?_|refine A.b rfl fun bx=>?_|refine A.t rfl fun bl=>?_); refine A.c rfl hn .refl ?_
      ((repeat first|refine A.s rfl ?_|refine A.r rfl rfl ?_|refine A.w rfl rfl ?_|refine A.p rfl ?_|refine A.b rfl fun bx=>?_|refine A.t rfl fun bl=>?_|refine A.step rfl ?_|refine A.v rfl rfl ?_); refine A.ret1 (Λ' := []) rfl rfl rfl (List.nil_sublist _) ⟨?_, rfl⟩; refine Sb.eq (ab_eq ?_); rw [shape_def])
      (show _ = ((partsM _ o t n s).2 && decide ((l.length : Int) = (partsM _ o t n s).1)); rw [hpm]; clear hn hp hw hgs; rw [Bool.eq_iff_iff]; simp [nil_eq, hlen]; try (first | (intros; omega) | (constructor <;> (intro h; simp_all; try omega))))
  by_cases h5 : k = 5
  · subst h5
    cases hnb : nameB s with
    | true =>
      rw [hnb] at hn
      have hpm : partsM 5 o t n s = (1, o == 0 && t == 0 && n == 0) := by show (if nameB s then _ else _) = _; rw [hnb]; rfl
      refine Pure.of (S := tt) (fn := Tryz.f64) (n := 129) tt_ok Tryz.func64 rfl rfl rfl rfl fun w0 h0 F hgs => ?_
      (repeat first|refine A.s rfl ?_|refine A.r rfl rfl ?_|refine A.w rfl rfl ?_|refine A.p rfl ?_|refine A.b rfl fun bx=>?_|refine A.t rfl fun bl=>?_); refine A.c rfl hn .refl ?_
      ((repeat first|refine A.s rfl ?_|refine A.r rfl rfl ?_|refine A.w rfl rfl ?_|refine A.p rfl ?_|refine A.b rfl fun bx=>?_|refine A.t rfl fun bl=>?_|refine A.step rfl ?_|refine A.v rfl rfl ?_); refine A.ret1 (Λ' := []) rfl rfl rfl (List.nil_sublist _) ⟨?_, rfl⟩; refine Sb.eq (ab_eq ?_); rw [shape_def])
      (show _ = ((partsM _ o t n s).2 && decide ((l.length : Int) = (partsM _ o t n s).1)); rw [hpm]; clear hn hp hw hgs; rw [Bool.eq_iff_iff]; simp [nil_eq, hlen]; try (first | (intros; omega) | (constructor <;> (intro h; simp_all; try omega))))
    | false =>
      rw [hnb] at hn
      have hpm : partsM 5 o t n s = (0, false) := by show (if nameB s then _ else _) = _; rw [hnb]; rfl
      refine Pure.of (S := tt) (fn := Tryz.f64) (n := 129) tt_ok Tryz.func64 rfl rfl rfl rfl fun w0 h0 F hgs => ?_
      (repeat first|refine A.s rfl ?_|refine A.r rfl rfl ?_|refine A.w rfl rfl ?_|refine A.p rfl ?_|refine A.b rfl fun bx=>?_|refine A.t rfl fun bl=>?_); refine A.c rfl hn .refl ?_
      ((repeat first|refine A.s rfl ?_|refine A.r rfl rfl ?_|refine A.w rfl rfl ?_|refine A.p rfl ?_|refine A.b rfl fun bx=>?_|refine A.t rfl fun bl=>?_|refine A.step rfl ?_|refine A.v rfl rfl ?_); refine A.ret1 (Λ' := []) rfl rfl rfl (List.nil_sublist _) ⟨?_, rfl⟩; refine Sb.eq (ab_eq ?_); rw [shape_def])
      (show _ = ((partsM _ o t n s).2 && decide ((l.length : Int) = (partsM _ o t n s).1)); rw [hpm]; clear hn hp hw hgs; rw [Bool.eq_iff_iff]; simp [nil_eq, hlen]; try (first | (intros; omega) | (constructor <;> (intro h; simp_all; try omega))))
  by_cases h6 : k = 6
  · subst h6
    by_cases hr : 23 ≤ o ∧ o ≤ 26
    · have hpm : partsM 6 o t n s = (1, t == 0 && n == 0 && decide (s = [])) := by show (if 23 ≤ o ∧ o ≤ 26 then _ else _) = _; rw [if_pos hr]
      refine Pure.of (S := tt) (fn := Tryz.f64) (n := 129) tt_ok Tryz.func64 rfl rfl rfl rfl fun w0 h0 F hgs => ?_
      ((repeat first|refine A.s rfl ?_|refine A.r rfl rfl ?_|refine A.w rfl rfl ?_|refine A.p rfl ?_|refine A.b rfl fun bx=>?_|refine A.t rfl fun bl=>?_|refine A.step rfl ?_|refine A.v rfl rfl ?_); refine A.ret1 (Λ' := []) rfl rfl rfl (List.nil_sublist _) ⟨?_, rfl⟩; refine Sb.eq (ab_eq ?_); rw [shape_def])
      (show _ = ((partsM _ o t n s).2 && decide ((l.length : Int) = (partsM _ o t n s).1)); rw [hpm]; clear hn hp hw hgs; rw [Bool.eq_iff_iff]; simp [nil_eq, hlen]; try (first | (intros; omega) | (constructor <;> (intro h; simp_all; try omega))))
    · have hpm : partsM 6 o t n s = (0, false) := by show (if 23 ≤ o ∧ o ≤ 26 then _ else _) = _; rw [if_neg hr]
      refine Pure.of (S := tt) (fn := Tryz.f64) (n := 129) tt_ok Tryz.func64 rfl rfl rfl rfl fun w0 h0 F hgs => ?_
      ((repeat first|refine A.s rfl ?_|refine A.r rfl rfl ?_|refine A.w rfl rfl ?_|refine A.p rfl ?_|refine A.b rfl fun bx=>?_|refine A.t rfl fun bl=>?_|refine A.step rfl ?_|refine A.v rfl rfl ?_); refine A.ret1 (Λ' := []) rfl rfl rfl (List.nil_sublist _) ⟨?_, rfl⟩; refine Sb.eq (ab_eq ?_); rw [shape_def])
      (show _ = ((partsM _ o t n s).2 && decide ((l.length : Int) = (partsM _ o t n s).1)); rw [hpm]; clear hn hp hw hgs; rw [Bool.eq_iff_iff]; simp [nil_eq, hlen]; try (first | (intros; omega) | (constructor <;> (intro h; simp_all; try omega))))
  by_cases h7 : k = 7
  · subst h7
    by_cases hr : 1 ≤ o ∧ o ≤ 22
    · have hpm : partsM 7 o t n s = (2, t == 0 && n == 0 && decide (s = [])) := by show (if 1 ≤ o ∧ o ≤ 22 then _ else _) = _; rw [if_pos hr]
      refine Pure.of (S := tt) (fn := Tryz.f64) (n := 129) tt_ok Tryz.func64 rfl rfl rfl rfl fun w0 h0 F hgs => ?_
      ((repeat first|refine A.s rfl ?_|refine A.r rfl rfl ?_|refine A.w rfl rfl ?_|refine A.p rfl ?_|refine A.b rfl fun bx=>?_|refine A.t rfl fun bl=>?_|refine A.step rfl ?_|refine A.v rfl rfl ?_); refine A.ret1 (Λ' := []) rfl rfl rfl (List.nil_sublist _) ⟨?_, rfl⟩; refine Sb.eq (ab_eq ?_); rw [shape_def])
      (show _ = ((partsM _ o t n s).2 && decide ((l.length : Int) = (partsM _ o t n s).1)); rw [hpm]; clear hn hp hw hgs; rw [Bool.eq_iff_iff]; simp [nil_eq, hlen]; try (first | (intros; omega) | (constructor <;> (intro h; simp_all; try omega))))
    · have hpm : partsM 7 o t n s = (0, false) := by show (if 1 ≤ o ∧ o ≤ 22 then _ else _) = _; rw [if_neg hr]
      refine Pure.of (S := tt) (fn := Tryz.f64) (n := 129) tt_ok Tryz.func64 rfl rfl rfl rfl fun w0 h0 F hgs => ?_
      ((repeat first|refine A.s rfl ?_|refine A.r rfl rfl ?_|refine A.w rfl rfl ?_|refine A.p rfl ?_|refine A.b rfl fun bx=>?_|refine A.t rfl fun bl=>?_|refine A.step rfl ?_|refine A.v rfl rfl ?_); refine A.ret1 (Λ' := []) rfl rfl rfl (List.nil_sublist _) ⟨?_, rfl⟩; refine Sb.eq (ab_eq ?_); rw [shape_def])
      (show _ = ((partsM _ o t n s).2 && decide ((l.length : Int) = (partsM _ o t n s).1)); rw [hpm]; clear hn hp hw hgs; rw [Bool.eq_iff_iff]; simp [nil_eq, hlen]; try (first | (intros; omega) | (constructor <;> (intro h; simp_all; try omega))))
  by_cases h8 : k = 8
  · subst h8
    by_cases hr : 1 ≤ t ∧ t ≤ 3
    · have hpm : partsM 8 o t n s = (1, o == 0 && n == 0 && decide (s = [])) := by show (if 1 ≤ t ∧ t ≤ 3 then _ else _) = _; rw [if_pos hr]
      rw [decide_eq_true hr] at hp
      refine Pure.of (S := tt) (fn := Tryz.f64) (n := 129) tt_ok Tryz.func64 rfl rfl rfl rfl fun w0 h0 F hgs => ?_
      (repeat first|refine A.s rfl ?_|refine A.r rfl rfl ?_|refine A.w rfl rfl ?_|refine A.p rfl ?_|refine A.b rfl fun bx=>?_|refine A.t rfl fun bl=>?_); refine A.c rfl hp .refl ?_
      ((repeat first|refine A.s rfl ?_|refine A.r rfl rfl ?_|refine A.w rfl rfl ?_|refine A.p rfl ?_|refine A.b rfl fun bx=>?_|refine A.t rfl fun bl=>?_|refine A.step rfl ?_|refine A.v rfl rfl ?_); refine A.ret1 (Λ' := []) rfl rfl rfl (List.nil_sublist _) ⟨?_, rfl⟩; refine Sb.eq (ab_eq ?_); rw [shape_def])
      (show _ = ((partsM _ o t n s).2 && decide ((l.length : Int) = (partsM _ o t n s).1)); rw [hpm]; clear hn hp hw hgs; rw [Bool.eq_iff_iff]; simp [nil_eq, hlen]; try (first | (intros; omega) | (constructor <;> (intro h; simp_all; try omega))))
    · have hpm : partsM 8 o t n s = (0, false) := by show (if 1 ≤ t ∧ t ≤ 3 then _ else _) = _; rw [if_neg hr]
      rw [decide_eq_false hr] at hp
      refine Pure.of (S := tt) (fn := Tryz.f64) (n := 129) tt_ok Tryz.func64 rfl rfl rfl rfl fun w0 h0 F hgs => ?_
      (repeat first|refine A.s rfl ?_|refine A.r rfl rfl ?_|refine A.w rfl rfl ?_|refine A.p rfl ?_|refine A.b rfl fun bx=>?_|refine A.t rfl fun bl=>?_); refine A.c rfl hp .refl ?_
      ((repeat first|refine A.s rfl ?_|refine A.r rfl rfl ?_|refine A.w rfl rfl ?_|refine A.p rfl ?_|refine A.b rfl fun bx=>?_|refine A.t rfl fun bl=>?_|refine A.step rfl ?_|refine A.v rfl rfl ?_); refine A.ret1 (Λ' := []) rfl rfl rfl (List.nil_sublist _) ⟨?_, rfl⟩; refine Sb.eq (ab_eq ?_); rw [shape_def])
      (show _ = ((partsM _ o t n s).2 && decide ((l.length : Int) = (partsM _ o t n s).1)); rw [hpm]; clear hn hp hw hgs; rw [Bool.eq_iff_iff]; simp [nil_eq, hlen]; try (first | (intros; omega) | (constructor <;> (intro h; simp_all; try omega))))
  have hpm : partsM k o t n s = (0, false) := by
    unfold partsM
    rw [if_neg h1, if_neg h2, if_neg h3, if_neg (by omega), if_neg h6, if_neg h7, if_neg h8]
  refine Pure.of (S := tt) (fn := Tryz.f64) (n := 129) tt_ok Tryz.func64 rfl rfl rfl rfl fun w0 h0 F hgs => ?_
  (repeat first|refine A.s rfl ?_|refine A.r rfl rfl ?_|refine A.w rfl rfl ?_|refine A.p rfl ?_|refine A.b rfl fun bx=>?_|refine A.t rfl fun bl=>?_)
  refine A.gF rfl (by simpa using h1) ?_
  (repeat first|refine A.s rfl ?_|refine A.r rfl rfl ?_|refine A.w rfl rfl ?_|refine A.p rfl ?_|refine A.b rfl fun bx=>?_|refine A.t rfl fun bl=>?_)
  refine A.gF rfl (by simpa using h2) ?_
  (repeat first|refine A.s rfl ?_|refine A.r rfl rfl ?_|refine A.w rfl rfl ?_|refine A.p rfl ?_|refine A.b rfl fun bx=>?_|refine A.t rfl fun bl=>?_)
  refine A.gF rfl (by simpa using h3) ?_
  (repeat first|refine A.s rfl ?_|refine A.r rfl rfl ?_|refine A.w rfl rfl ?_|refine A.p rfl ?_|refine A.b rfl fun bx=>?_|refine A.t rfl fun bl=>?_)
  refine A.gF rfl (by simpa using h4) ?_
  (repeat first|refine A.s rfl ?_|refine A.r rfl rfl ?_|refine A.w rfl rfl ?_|refine A.p rfl ?_|refine A.b rfl fun bx=>?_|refine A.t rfl fun bl=>?_)
  refine A.gF rfl (by simpa using h9) ?_
  (repeat first|refine A.s rfl ?_|refine A.r rfl rfl ?_|refine A.w rfl rfl ?_|refine A.p rfl ?_|refine A.b rfl fun bx=>?_|refine A.t rfl fun bl=>?_)
  refine A.gF rfl (by simpa using h5) ?_
  (repeat first|refine A.s rfl ?_|refine A.r rfl rfl ?_|refine A.w rfl rfl ?_|refine A.p rfl ?_|refine A.b rfl fun bx=>?_|refine A.t rfl fun bl=>?_)
  refine A.gF rfl (by simpa using h6) ?_
  (repeat first|refine A.s rfl ?_|refine A.r rfl rfl ?_|refine A.w rfl rfl ?_|refine A.p rfl ?_|refine A.b rfl fun bx=>?_|refine A.t rfl fun bl=>?_)
  refine A.gF rfl (by simpa using h7) ?_
  (repeat first|refine A.s rfl ?_|refine A.r rfl rfl ?_|refine A.w rfl rfl ?_|refine A.p rfl ?_|refine A.b rfl fun bx=>?_|refine A.t rfl fun bl=>?_)
  refine A.gF rfl (by simpa using h8) ?_
  (repeat first|refine A.s rfl ?_|refine A.r rfl rfl ?_|refine A.w rfl rfl ?_|refine A.p rfl ?_|refine A.b rfl fun bx=>?_|refine A.t rfl fun bl=>?_); refine A.ret1 (Λ' := []) rfl rfl rfl (List.nil_sublist _) ⟨?_, rfl⟩; refine Sb.eq (ab_eq ?_); rw [shape_def]; show _ = ((partsM k o t n s).2 && _); rw [hpm]; rfl

/-- what is left of so many, or -1 -/
def roomM (e : XE) (inside left : Int) : Int := if fitsX e left (32 - inside) then left - szX e else -1
theorem room_p : ∀ (N : Nat) (e : XE) (inside left : Int), szX e ≤ N → wfX e → 0 ≤ inside → inside ≤ 32 → 0 ≤ left → left ≤ 256 →
    Pure Tryz.prog gs0 36 [encX e, AI inside, AI left] (AI (roomM e inside left))
  | 0, e, _, _, hn, _, _, _, _, _ => by have := szX_pos e; omega
  | N + 1, e, inside, left, hn, hw, i0, i1, r0, r1 => by
    have ho := own_p e hw
    have hlen : ((encXl e.l).length : Int) = e.l.length := by rw [encXl_len]
    have hll : e.l.length ≤ 281474976710656 := by obtain ⟨k, o, t, n, s, l⟩ := e; rw [wfX] at hw; exact hw.1.2.2.2.2.2
    rw [encX_eq] at ho ⊢
    by_cases hi : inside = 32
    · have hr : roomM e inside left = -1 := if_neg (fitsX_no (by omega))
      rw [hr, hi]
      refine Pure.of (S := tt) (fn := Tryz.f36) (n := 40) tt_ok Tryz.func36 rfl rfl rfl rfl fun w0 h0 F hgs => ?_
      (repeat first|refine A.s rfl ?_|refine A.r rfl rfl ?_|refine A.w rfl rfl ?_|refine A.p rfl ?_|refine A.b rfl fun bx=>?_|refine A.t rfl fun bl=>?_); refine A.ret1 (Λ' := []) rfl rfl rfl (List.nil_sublist _) ⟨?_, rfl⟩; exact .refl
    by_cases hl : left = 0
    · have hr : roomM e inside left = -1 := if_neg (fitsX_no (by omega))
      rw [hr, hl]
      refine Pure.of (S := tt) (fn := Tryz.f36) (n := 40) tt_ok Tryz.func36 rfl rfl rfl rfl fun w0 h0 F hgs => ?_
      (repeat first|refine A.s rfl ?_|refine A.r rfl rfl ?_|refine A.w rfl rfl ?_|refine A.p rfl ?_|refine A.b rfl fun bx=>?_|refine A.t rfl fun bl=>?_)
      refine A.gF rfl (by simpa using hi) ?_
      (repeat first|refine A.s rfl ?_|refine A.r rfl rfl ?_|refine A.w rfl rfl ?_|refine A.p rfl ?_|refine A.b rfl fun bx=>?_|refine A.t rfl fun bl=>?_); refine A.ret1 (Λ' := []) rfl rfl rfl (List.nil_sublist _) ⟨?_, rfl⟩; exact .refl
    cases hs : shapeX e with
    | false =>
      have hr : roomM e inside left = -1 := if_neg (fitsX_no (.inr (.inr hs)))
      rw [hs] at ho
      rw [hr]
      refine Pure.of (S := tt) (fn := Tryz.f36) (n := 40) tt_ok Tryz.func36 rfl rfl rfl rfl fun w0 h0 F hgs => ?_
      (repeat first|refine A.s rfl ?_|refine A.r rfl rfl ?_|refine A.w rfl rfl ?_|refine A.p rfl ?_|refine A.b rfl fun bx=>?_|refine A.t rfl fun bl=>?_)
      refine A.gF rfl (by simpa using hi) ?_
      (repeat first|refine A.s rfl ?_|refine A.r rfl rfl ?_|refine A.w rfl rfl ?_|refine A.p rfl ?_|refine A.b rfl fun bx=>?_|refine A.t rfl fun bl=>?_)
      refine A.gF rfl (by simpa using hl) ?_
      (repeat first|refine A.s rfl ?_|refine A.r rfl rfl ?_|refine A.w rfl rfl ?_|refine A.p rfl ?_|refine A.b rfl fun bx=>?_|refine A.t rfl fun bl=>?_); refine A.c rfl ho .refl ?_
      (repeat first|refine A.s rfl ?_|refine A.r rfl rfl ?_|refine A.w rfl rfl ?_|refine A.p rfl ?_|refine A.b rfl fun bx=>?_|refine A.t rfl fun bl=>?_); refine A.ret1 (Λ' := []) rfl rfl rfl (List.nil_sublist _) ⟨?_, rfl⟩; exact .refl
    | true =>
    rw [hs] at ho
    have hfl := fitsX_l (e := e) (room := left) (deep := 32 - inside) (by omega) (by omega) hs
    rw [show 32 - inside - 1 = 32 - (inside + 1) by omega] at hfl
    have hw1 : IntKind.i64.wrap (left - 1) = left - 1 := wr64 _ (by omega)
    have hw2 : IntKind.i64.wrap (inside + 1) = inside + 1 := wr64 _ (by omega)
    generalize hrm : roomM e inside left = rm
    refine Pure.of (S := tt) (fn := Tryz.f36) (n := 40) tt_ok Tryz.func36 rfl rfl rfl rfl fun w0 h0 F hgs => ?_
    (repeat first|refine A.s rfl ?_|refine A.r rfl rfl ?_|refine A.w rfl rfl ?_|refine A.p rfl ?_|refine A.b rfl fun bx=>?_|refine A.t rfl fun bl=>?_)
    refine A.gF rfl (by simpa using hi) ?_
    (repeat first|refine A.s rfl ?_|refine A.r rfl rfl ?_|refine A.w rfl rfl ?_|refine A.p rfl ?_|refine A.b rfl fun bx=>?_|refine A.t rfl fun bl=>?_)
    refine A.gF rfl (by simpa using hl) ?_
    (repeat first|refine A.s rfl ?_|refine A.r rfl rfl ?_|refine A.w rfl rfl ?_|refine A.p rfl ?_|refine A.b rfl fun bx=>?_|refine A.t rfl fun bl=>?_); refine A.c rfl ho .refl ?_
    (repeat first|refine A.s rfl ?_|refine A.r rfl rfl ?_|refine A.w rfl rfl ?_|refine A.p rfl ?_|refine A.b rfl fun bx=>?_|refine A.t rfl fun bl=>?_)
    refine A.valE 2 rfl (x' := AI (left - 1 - (szXl (e.l.take 0) : Nat))) (ai_eq (by rw [hw1]; simp [szXl])) ?_
    refine A.keep [1, 2, 3, 7] rfl ?_
    refine A.loopP (ι := Nat) (fun i => (⟨[(1, AI inside), (2, AI (left - 1 - (szXl (e.l.take i) : Nat))), (3, .v (.pointer (some ⟨_, 0, none⟩))), (7, AI (i : Int))], []⟩, [.box _ (cellsX e)]))
      (fun i => i ≤ e.l.length ∧ fitsXl (e.l.take i) (left - 1) (32 - (inside + 1))) (fun i => e.l.length - i) 0 ⟨Nat.zero_le _, ?_⟩ rfl fun i hi ih => ?_
    · refine ⟨rfl, ?_, ?_⟩
      · simp [szXl]; omega
      · simp [htXl]; omega
    obtain ⟨hi1, hi2⟩ := hi
    have hsz2 := hi2.2.1
    (repeat first|refine A.s rfl ?_|refine A.r rfl rfl ?_|refine A.w rfl rfl ?_|refine A.p rfl ?_|refine A.b rfl fun bx=>?_|refine A.t rfl fun bl=>?_)
    refine A.valE 24 rfl (x' := AI (e.l.length : Nat)) (ai_eq hlen) ?_
    (repeat first|refine A.s rfl ?_|refine A.r rfl rfl ?_|refine A.w rfl rfl ?_|refine A.p rfl ?_|refine A.b rfl fun bx=>?_|refine A.t rfl fun bl=>?_)
    refine A.cond rfl (fun hc => ?_) (fun hc => ?_)
    · simp at hc
      refine Exists.elim (at_exN (l := e.l) (i := i) (by omega)) fun x hx => ?_
      have hxm := List.mem_of_getElem? hx
      have hxs := szXl_le hxm
      have hse := szX_eq e
      have htk : e.l.take (i + 1) = e.l.take i ++ [x] := by rw [List.take_add_one, hx]; rfl
      have hsn := fitsXl_snoc (x := x) hi2
      rw [← htk] at hsn
      have ihx := room_p N x (inside + 1) (left - 1 - (szXl (e.l.take i) : Nat)) (by omega) (wfXl_mem (wfX_l hw) x hxm) (by omega) (by omega) (by omega) (by omega)
      rw [encX_eq x] at ihx
      (repeat first|refine A.s rfl ?_|refine A.r rfl rfl ?_|refine A.w rfl rfl ?_|refine A.p rfl ?_|refine A.b rfl fun bx=>?_|refine A.t rfl fun bl=>?_)
      refine A.x rfl (by omega) (encXl_at hx) (encX_eq x) rfl ?_
      (repeat first|refine A.s rfl ?_|refine A.r rfl rfl ?_|refine A.w rfl rfl ?_|refine A.p rfl ?_|refine A.b rfl fun bx=>?_|refine A.t rfl fun bl=>?_)
      refine A.valE 34 rfl (x' := AI (inside + 1)) (ai_eq hw2) ?_
      (repeat first|refine A.s rfl ?_|refine A.r rfl rfl ?_|refine A.w rfl rfl ?_|refine A.p rfl ?_|refine A.b rfl fun bx=>?_|refine A.t rfl fun bl=>?_)
      refine A.c rfl ihx .refl ?_
      (repeat first|refine A.s rfl ?_|refine A.r rfl rfl ?_|refine A.w rfl rfl ?_|refine A.p rfl ?_|refine A.b rfl fun bx=>?_|refine A.t rfl fun bl=>?_)
      by_cases hfx : fitsX x (left - 1 - (szXl (e.l.take i) : Nat)) (32 - (inside + 1))
      · have hrx : roomM x (inside + 1) (left - 1 - (szXl (e.l.take i) : Nat)) = left - 1 - (szXl (e.l.take i) : Nat) - szX x := if_pos hfx
        have hxz := hfx.2.1
        refine A.gF rfl (decide_eq_false (by rw [hrx]; omega)) ?_
        (repeat first|refine A.s rfl ?_|refine A.r rfl rfl ?_|refine A.w rfl rfl ?_|refine A.p rfl ?_|refine A.b rfl fun bx=>?_|refine A.t rfl fun bl=>?_)
        refine A.valE 7 rfl (x' := AI ((i + 1 : Nat) : Int)) (inc_eq i (by omega)) ?_
        refine A.valE 2 rfl (x' := AI (left - 1 - (szXl (e.l.take (i + 1)) : Nat))) (ai_eq (by rw [hrx, htk, szXl_append]; simp [szXl]; omega)) ?_
        refine A.sub (by repeat (first | exact trivial | refine ⟨⟨_, rfl, .refl⟩, ?_⟩)) (ih (i + 1) ⟨by omega, hsn.2 hfx⟩ (by omega))
      · have hrx : roomM x (inside + 1) (left - 1 - (szXl (e.l.take i) : Nat)) = -1 := if_neg hfx
        have hnf : ¬ fitsX e left (32 - inside) := fun hf => hfx (hsn.1 (fitsXl_take (hfl.1 hf) (i + 1)))
        have hr : rm = -1 := by rw [← hrm]; exact if_neg hnf
        refine A.gT rfl (decide_eq_true (by rw [hrx]; omega)) ?_
        (repeat first|refine A.s rfl ?_|refine A.r rfl rfl ?_|refine A.w rfl rfl ?_|refine A.p rfl ?_|refine A.b rfl fun bx=>?_|refine A.t rfl fun bl=>?_); refine A.ret1 (Λ' := []) rfl rfl rfl (List.nil_sublist _) ⟨?_, rfl⟩; exact Sb.eq (ai_eq hr.symm)
    · simp at hc
      have hil : i = e.l.length := by omega
      rw [hil, List.take_length] at hi2
      have hr : rm = left - 1 - (szXl (e.l.take i) : Nat) := by
        rw [← hrm, hil, List.take_length]
        rw [roomM, if_pos (hfl.2 hi2), szX_eq]; omega
      (repeat first|refine A.s rfl ?_|refine A.r rfl rfl ?_|refine A.w rfl rfl ?_|refine A.p rfl ?_|refine A.b rfl fun bx=>?_|refine A.t rfl fun bl=>?_); refine A.ret1 (Λ' := []) rfl rfl rfl (List.nil_sublist _) ⟨?_, rfl⟩; exact Sb.eq (ai_eq hr.symm)
theorem may10_p (e : XE) (hw : wfX e) : Pure Tryz.prog gs0 23 [encX e] (AB (decide (validX e))) := by
  have h := room_p (szX e) e 0 256 (Nat.le_refl _) hw (by decide) (by decide) (by decide) (by decide)
  have hr : decide (roomM e 0 256 ≥ 0) = decide (validX e) := by
    unfold roomM
    by_cases hv : fitsX e 256 (32 - 0)
    · have hz := hv.2.1
      rw [if_pos hv, decide_eq_true (show validX e from hv)]
      simp; omega
    · rw [if_neg hv, decide_eq_false (show ¬ validX e from hv)]
      decide
  rw [encX_eq] at h ⊢
  refine Pure.of (S := tt) (fn := Tryz.f23) (n := 6) tt_ok Tryz.func23 rfl rfl rfl rfl fun w0 h0 F hgs => ?_
  (repeat first|refine A.s rfl ?_|refine A.r rfl rfl ?_|refine A.w rfl rfl ?_|refine A.p rfl ?_|refine A.b rfl fun bx=>?_|refine A.t rfl fun bl=>?_); refine A.c rfl h .refl ?_
  (repeat first|refine A.s rfl ?_|refine A.r rfl rfl ?_|refine A.w rfl rfl ?_|refine A.p rfl ?_|refine A.b rfl fun bx=>?_|refine A.t rfl fun bl=>?_); refine A.ret1 (Λ' := []) rfl rfl rfl (List.nil_sublist _) ⟨?_, rfl⟩; exact Sb.eq (ab_eq hr)
end Go.Proofs.YtlnbmocgnkjlfaaGreat
