/-
  Layer 8: names and reserved words.
-/
import Derived.Test.YtbdjbmbghfbenaaQ08s

namespace Go.Proofs.Ytbdjbmbghfbenaa
open Go Go.Tp
set_option linter.unusedVariables false
set_option linter.unusedSimpArgs false
set_option maxRecDepth 100000
set_option maxHeartbeats 4000000

def letterB (c : Int) : Bool := (decide (97 ≤ c) && decide (c ≤ 122)) || (decide (65 ≤ c) && decide (c ≤ 90))
def digitB (c : Int) : Bool := decide (48 ≤ c) && decide (c ≤ 57)
def wordB (c : Int) : Bool := letterB c || digitB c || c == 46
def runN (s : List UInt8) : Nat := (s.takeWhile fun b => wordB b.toNat).length
theorem letter_p (c : Int) : Pure Try.prog gs0 56 [AU8 c] (AB (letterB c)) := by
  refine Pure.of (S := tt) (fn := Try.f56) (n := 17) tt_ok Try.func56 rfl rfl rfl rfl fun w0 h0 F hgs => ?_
  (repeat first|refine A.s rfl ?_|refine A.r rfl rfl ?_|refine A.w rfl rfl ?_|refine A.p rfl ?_|refine A.b rfl fun bx=>?_|refine A.t rfl fun bl=>?_|refine A.step rfl ?_|refine A.v rfl rfl ?_); refine A.ret1 (Λ' := []) rfl rfl rfl (List.nil_sublist _) ⟨?_, rfl⟩; refine Sb.eq (ab_eq ?_)
  simp only [letterB]
  cases decide (97 ≤ c) <;> cases decide (c ≤ 122) <;> cases decide (65 ≤ c) <;> cases decide (c ≤ 90) <;> rfl
theorem digit_p (c : Int) : Pure Try.prog gs0 79 [AU8 c] (AB (digitB c)) := by
  refine Pure.of (S := tt) (fn := Try.f79) (n := 9) tt_ok Try.func79 rfl rfl rfl rfl fun w0 h0 F hgs => ?_
  (repeat first|refine A.s rfl ?_|refine A.r rfl rfl ?_|refine A.w rfl rfl ?_|refine A.p rfl ?_|refine A.b rfl fun bx=>?_|refine A.t rfl fun bl=>?_|refine A.step rfl ?_|refine A.v rfl rfl ?_); refine A.ret1 (Λ' := []) rfl rfl rfl (List.nil_sublist _) ⟨?_, rfl⟩; refine Sb.eq (ab_eq ?_)
  simp only [digitB]
  cases decide (48 ≤ c) <;> cases decide (c ≤ 57) <;> rfl
theorem takeWhile_drop {α : Type} (p : α → Bool) : ∀ (l : List α) (i : Nat), (∀ j x, j < i → l[j]? = some x → p x = true) → i ≤ l.length → (l.takeWhile p).length = i + ((l.drop i).takeWhile p).length
  | l, 0, _, _ => by simp
  | [], i + 1, _, h => by simp at h
  | x :: l, i + 1, h, hi => by
    have h0 := h 0 x (by omega) rfl
    rw [List.takeWhile_cons_of_pos h0, List.length_cons, takeWhile_drop p l i (fun j y hj hy => h (j + 1) y (by omega) hy) (by simpa using hi)]
    simp; omega
theorem run_stop {s : List UInt8} {i : Nat} {b : UInt8} (h : ∀ j x, j < i → s[j]? = some x → wordB x.toNat = true) (hb : s[i]? = some b) (hw : wordB b.toNat = false) : runN s = i := by
  have hi := (List.getElem?_eq_some_iff.1 hb).1
  rw [runN, takeWhile_drop _ s i h (by omega)]
  have : s.drop i = b :: s.drop (i + 1) := by rw [List.drop_eq_getElem_cons hi]; congr 1; exact (List.getElem?_eq_some_iff.1 hb).2
  rw [this, List.takeWhile_cons_of_neg (by simpa using hw)]; rfl
theorem run_all {s : List UInt8} (h : ∀ j x, j < s.length → s[j]? = some x → wordB x.toNat = true) : runN s = s.length := by
  rw [runN, takeWhile_drop _ s s.length h (by omega)]; simp
theorem run_p (s : List UInt8) (hs : s.length ≤ 4611686018427387904) : Pure Try.prog gs0 57 [AS s] (AI (runN s : Nat)) := by
  refine Pure.of (S := tt) (fn := Try.f57) (n := 31) tt_ok Try.func57 rfl rfl rfl rfl fun w0 h0 F hgs => ?_
  (repeat first|refine A.s rfl ?_|refine A.r rfl rfl ?_|refine A.w rfl rfl ?_|refine A.p rfl ?_|refine A.b rfl fun bx=>?_|refine A.t rfl fun bl=>?_|refine A.step rfl ?_|refine A.v rfl rfl ?_)
  refine A.valE 5 rfl (x' := AI (s.length : Nat)) (ai_eq rfl) ?_
  refine A.keep [0, 5, 6] rfl ?_
  refine A.loopP (ι := Nat) (fun i => (⟨[(0, AS s), (5, AI (s.length : Nat)), (6, AI (i : Nat))], []⟩, [])) (fun i => i ≤ s.length ∧ ∀ j x, j < i → s[j]? = some x → wordB x.toNat = true) (fun i => s.length - i) 0 ⟨Nat.zero_le _, fun j x hj => by omega⟩ rfl fun i hi ih => ?_
  (repeat first|refine A.s rfl ?_|refine A.r rfl rfl ?_|refine A.w rfl rfl ?_|refine A.p rfl ?_|refine A.b rfl fun bx=>?_|refine A.t rfl fun bl=>?_|refine A.step rfl ?_|refine A.v rfl rfl ?_)
  refine A.cond rfl (fun hc => ?_) (fun hc => ?_)
  · simp at hc
    refine Exists.elim (at_exN (l := s) (i := i) (by omega)) fun b hbb => ?_
    have hlt := letter_p b.toNat
    have hdg := digit_p b.toNat
    have eNx := inc_eq i (by omega)
    have next : wordB b.toNat = true → i + 1 ≤ s.length ∧ ∀ j x, j < i + 1 → s[j]? = some x → wordB x.toNat = true := fun hw => ⟨by omega, fun j x hj hx => by
      by_cases hji : j = i
      · subst hji; rw [hbb] at hx; injection hx with hx; subst hx; exact hw
      · exact hi.2 j x (by omega) hx⟩
    (repeat first|refine A.s rfl ?_|refine A.r rfl rfl ?_|refine A.w rfl rfl ?_|refine A.p rfl ?_|refine A.b rfl fun bx=>?_|refine A.t rfl fun bl=>?_); refine A.n rfl (by omega) hbb rfl ?_
    (repeat first|refine A.s rfl ?_|refine A.r rfl rfl ?_|refine A.w rfl rfl ?_|refine A.p rfl ?_|refine A.b rfl fun bx=>?_|refine A.t rfl fun bl=>?_); refine A.c rfl hlt .refl ?_
    refine A.split 12 rfl (fun hl => ?_) (fun hl => ?_)
    · (repeat first|refine A.s rfl ?_|refine A.r rfl rfl ?_|refine A.w rfl rfl ?_|refine A.p rfl ?_|refine A.b rfl fun bx=>?_|refine A.t rfl fun bl=>?_)
      refine A.valE 6 rfl (x' := AI ((i + 1 : Nat) : Int)) eNx ?_
      refine A.sub (by repeat (first | exact trivial | refine ⟨⟨_, rfl, .refl⟩, ?_⟩)) (ih (i + 1) (next (by simp [wordB, hl])) (by omega))
    · (repeat first|refine A.s rfl ?_|refine A.r rfl rfl ?_|refine A.w rfl rfl ?_|refine A.p rfl ?_|refine A.b rfl fun bx=>?_|refine A.t rfl fun bl=>?_); refine A.n rfl (by omega) hbb rfl ?_
      (repeat first|refine A.s rfl ?_|refine A.r rfl rfl ?_|refine A.w rfl rfl ?_|refine A.p rfl ?_|refine A.b rfl fun bx=>?_|refine A.t rfl fun bl=>?_); refine A.c rfl hdg .refl ?_
      refine A.split 18 rfl (fun hd => ?_) (fun hd => ?_)
      · (repeat first|refine A.s rfl ?_|refine A.r rfl rfl ?_|refine A.w rfl rfl ?_|refine A.p rfl ?_|refine A.b rfl fun bx=>?_|refine A.t rfl fun bl=>?_)
        refine A.valE 6 rfl (x' := AI ((i + 1 : Nat) : Int)) eNx ?_
        refine A.sub (by repeat (first | exact trivial | refine ⟨⟨_, rfl, .refl⟩, ?_⟩)) (ih (i + 1) (next (by simp [wordB, hd])) (by omega))
      · (repeat first|refine A.s rfl ?_|refine A.r rfl rfl ?_|refine A.w rfl rfl ?_|refine A.p rfl ?_|refine A.b rfl fun bx=>?_|refine A.t rfl fun bl=>?_); refine A.n rfl (by omega) hbb rfl ?_
        (repeat first|refine A.s rfl ?_|refine A.r rfl rfl ?_|refine A.w rfl rfl ?_|refine A.p rfl ?_|refine A.b rfl fun bx=>?_|refine A.t rfl fun bl=>?_)
        by_cases h46 : (b.toNat : Int) = 46
        · refine A.valE 26 rfl (x' := AB false) (ab_eq (by simp [h46])) ?_
          (repeat first|refine A.s rfl ?_|refine A.r rfl rfl ?_|refine A.w rfl rfl ?_|refine A.p rfl ?_|refine A.b rfl fun bx=>?_|refine A.t rfl fun bl=>?_)
          refine A.valE 6 rfl (x' := AI ((i + 1 : Nat) : Int)) eNx ?_
          refine A.sub (by repeat (first | exact trivial | refine ⟨⟨_, rfl, .refl⟩, ?_⟩)) (ih (i + 1) (next (by simp [wordB, h46])) (by omega))
        · refine A.valE 26 rfl (x' := AB true) (ab_eq (by simp [h46])) ?_
          (repeat first|refine A.s rfl ?_|refine A.r rfl rfl ?_|refine A.w rfl rfl ?_|refine A.p rfl ?_|refine A.b rfl fun bx=>?_|refine A.t rfl fun bl=>?_); refine A.ret1 (Λ' := []) rfl rfl rfl (List.nil_sublist _) ⟨?_, rfl⟩; refine Sb.eq (ai_eq ?_)
          rw [run_stop hi.2 hbb (by simp [wordB, hl, hd, h46])]
  · simp at hc
    (repeat first|refine A.s rfl ?_|refine A.r rfl rfl ?_|refine A.w rfl rfl ?_|refine A.p rfl ?_|refine A.b rfl fun bx=>?_|refine A.t rfl fun bl=>?_); refine A.ret1 (Λ' := []) rfl rfl rfl (List.nil_sublist _) ⟨?_, rfl⟩; refine Sb.eq (ai_eq ?_)
    rw [run_all (fun j x hj => hi.2 j x (by omega))]; rfl
def keysL : List UInt8 := [32, 65, 70, 84, 69, 82, 32, 65, 76, 84, 32, 65, 78, 68, 32, 66, 79, 79, 76, 32, 66, 89, 84, 69, 32, 67, 65, 83, 69, 32, 67, 72, 65, 78, 32, 69, 76, 83, 69, 32, 70, 65, 76, 83, 69, 32, 70, 79, 82, 32, 73, 70, 32, 73, 78, 84, 32, 73, 83, 32, 77, 73, 78, 85, 83, 32, 78, 79, 84, 32, 79, 70, 32, 79, 82, 32, 80, 65, 82, 32, 80, 76, 65, 67, 69, 68, 32, 80, 76, 85, 83, 32, 80, 82, 73, 32, 80, 82, 79, 67, 32, 80, 82, 79, 67, 69, 83, 83, 79, 82, 32, 80, 82, 79, 84, 79, 67, 79, 76, 32, 83, 69, 81, 32, 83, 73, 90, 69, 32, 83, 75, 73, 80, 32, 83, 84, 79, 80, 32, 84, 73, 77, 69, 82, 32, 84, 73, 77, 69, 83, 32, 84, 82, 85, 69, 32, 86, 65, 76, 32, 87, 72, 73, 76, 69, 32]
def keyB (s : List UInt8) : Bool := decide (s ≠ []) && (runN s == s.length) && Lib.contains keysL (32 :: s ++ [32])
theorem ne_nil (s : List UInt8) : (!((BS s).toList == (ByteArray.mk #[]).toList)) = decide (s ≠ []) := by
  have : (ByteArray.mk #[]) = BS [] := rfl
  rw [this, bs_eq]; cases s <;> rfl
theorem key_p (m : Int) (s : List UInt8) (hs : s.length ≤ 281474976710656) : Pure Try.prog (gsM m) 58 [AS s] (AB (keyB s)) := by
  have hr := (run_p s (by omega)).any (gs := gsM m)
  have hc := contains_p m keysL (32 :: s ++ [32]) (by decide)
  by_cases hn0 : s = []
  · subst hn0
    refine Pure.of (S := tt) (fn := Try.f58) (n := 18) tt_ok Try.func58 rfl rfl rfl rfl fun w0 h0 F hgs => ?_
    (repeat first|refine A.s rfl ?_|refine A.r rfl rfl ?_|refine A.w rfl rfl ?_|refine A.p rfl ?_|refine A.b rfl fun bx=>?_|refine A.t rfl fun bl=>?_)
    refine A.valE 5 rfl (x' := AB false) (ab_eq (by rw [ne_nil]; rfl)) ?_
    (repeat first|refine A.s rfl ?_|refine A.r rfl rfl ?_|refine A.w rfl rfl ?_|refine A.p rfl ?_|refine A.b rfl fun bx=>?_|refine A.t rfl fun bl=>?_); refine A.ret1 (Λ' := []) rfl rfl rfl (List.nil_sublist _) ⟨?_, rfl⟩; exact .refl
  by_cases h1 : runN s = s.length
  · refine Pure.of (S := tt) (fn := Try.f58) (n := 18) tt_ok Try.func58 rfl rfl rfl rfl fun w0 h0 F hgs => ?_
    (repeat first|refine A.s rfl ?_|refine A.r rfl rfl ?_|refine A.w rfl rfl ?_|refine A.p rfl ?_|refine A.b rfl fun bx=>?_|refine A.t rfl fun bl=>?_)
    refine A.valE 5 rfl (x' := AB true) (ab_eq (by rw [ne_nil]; simp [hn0])) ?_
    (repeat first|refine A.s rfl ?_|refine A.r rfl rfl ?_|refine A.w rfl rfl ?_|refine A.p rfl ?_|refine A.b rfl fun bx=>?_|refine A.t rfl fun bl=>?_); refine A.c rfl hr .refl ?_
    (repeat first|refine A.s rfl ?_|refine A.r rfl rfl ?_|refine A.w rfl rfl ?_|refine A.p rfl ?_|refine A.b rfl fun bx=>?_|refine A.t rfl fun bl=>?_)
    refine A.valE 12 rfl (x' := AB true) (ab_eq (by rw [h1]; exact beq_self_eq_true _)) ?_
    (repeat first|refine A.s rfl ?_|refine A.r rfl rfl ?_|refine A.w rfl rfl ?_|refine A.p rfl ?_|refine A.b rfl fun bx=>?_|refine A.t rfl fun bl=>?_)
    refine A.j rfl (c := BS (32 :: s)) (as_app [32] s) rfl ?_ ?_
    · show 1 + s.length ≤ _; omega
    refine A.j rfl (c := BS (32 :: s ++ [32])) (as_app (32 :: s) [32]) rfl ?_ ?_
    · show (32 :: s).length + 1 ≤ _; rw [List.length_cons]; omega
    refine A.c rfl hc .refl ?_
    (repeat first|refine A.s rfl ?_|refine A.r rfl rfl ?_|refine A.w rfl rfl ?_|refine A.p rfl ?_|refine A.b rfl fun bx=>?_|refine A.t rfl fun bl=>?_); refine A.ret1 (Λ' := []) rfl rfl rfl (List.nil_sublist _) ⟨?_, rfl⟩; refine Sb.eq (ab_eq ?_); simp [keyB, hn0, h1]
  · refine Pure.of (S := tt) (fn := Try.f58) (n := 18) tt_ok Try.func58 rfl rfl rfl rfl fun w0 h0 F hgs => ?_
    (repeat first|refine A.s rfl ?_|refine A.r rfl rfl ?_|refine A.w rfl rfl ?_|refine A.p rfl ?_|refine A.b rfl fun bx=>?_|refine A.t rfl fun bl=>?_)
    refine A.valE 5 rfl (x' := AB true) (ab_eq (by rw [ne_nil]; simp [hn0])) ?_
    (repeat first|refine A.s rfl ?_|refine A.r rfl rfl ?_|refine A.w rfl rfl ?_|refine A.p rfl ?_|refine A.b rfl fun bx=>?_|refine A.t rfl fun bl=>?_); refine A.c rfl hr .refl ?_
    (repeat first|refine A.s rfl ?_|refine A.r rfl rfl ?_|refine A.w rfl rfl ?_|refine A.p rfl ?_|refine A.b rfl fun bx=>?_|refine A.t rfl fun bl=>?_)
    refine A.valE 12 rfl (x' := AB false) (ab_eq (beq_eq_false_iff_ne.2 (by show ((runN s : Nat) : Int) ≠ (s.length : Nat); omega))) ?_
    (repeat first|refine A.s rfl ?_|refine A.r rfl rfl ?_|refine A.w rfl rfl ?_|refine A.p rfl ?_|refine A.b rfl fun bx=>?_|refine A.t rfl fun bl=>?_); refine A.ret1 (Λ' := []) rfl rfl rfl (List.nil_sublist _) ⟨?_, rfl⟩; refine Sb.eq (ab_eq ?_); simp [keyB, hn0, h1]
def nameB (s : List UInt8) : Bool := match s with
  | [] => false
  | b :: r => decide ((b :: r).length ≤ 32) && letterB b.toNat && (runN (b :: r) == (b :: r).length) && !keyB (b :: r)
theorem name_p (m : Int) (s : List UInt8) (hs : s.length ≤ 281474976710656) : Pure Try.prog (gsM m) 46 [AS s] (AB (nameB s)) := by
  have hr := (run_p s (by omega)).any (gs := gsM m)
  have hk := key_p m s hs
  cases s with
  | nil =>
    refine Pure.of (S := tt) (fn := Try.f46) (n := 27) tt_ok Try.func46 rfl rfl rfl rfl fun w0 h0 F hgs => ?_
    (repeat first|refine A.s rfl ?_|refine A.r rfl rfl ?_|refine A.w rfl rfl ?_|refine A.p rfl ?_|refine A.b rfl fun bx=>?_|refine A.t rfl fun bl=>?_)
    refine A.valE 5 rfl (x' := AB false) (ab_eq (by rw [ne_nil]; rfl)) ?_
    (repeat first|refine A.s rfl ?_|refine A.r rfl rfl ?_|refine A.w rfl rfl ?_|refine A.p rfl ?_|refine A.b rfl fun bx=>?_|refine A.t rfl fun bl=>?_); refine A.ret1 (Λ' := []) rfl rfl rfl (List.nil_sublist _) ⟨?_, rfl⟩; exact .refl
  | cons b r =>
    have hl := (letter_p b.toNat).any (gs := gsM m)
    by_cases h1 : (b :: r).length ≤ 32
    case neg =>
      refine Pure.of (S := tt) (fn := Try.f46) (n := 27) tt_ok Try.func46 rfl rfl rfl rfl fun w0 h0 F hgs => ?_
      (repeat first|refine A.s rfl ?_|refine A.r rfl rfl ?_|refine A.w rfl rfl ?_|refine A.p rfl ?_|refine A.b rfl fun bx=>?_|refine A.t rfl fun bl=>?_)
      refine A.valE 5 rfl (x' := AB true) (ab_eq (by rw [ne_nil]; rfl)) ?_
      (repeat first|refine A.s rfl ?_|refine A.r rfl rfl ?_|refine A.w rfl rfl ?_|refine A.p rfl ?_|refine A.b rfl fun bx=>?_|refine A.t rfl fun bl=>?_)
      refine A.valE 10 rfl (x' := AB false) (ab_eq (by show decide (((b :: r).length : Int) ≤ 32) = false; simp; simp at h1; omega)) ?_
      (repeat first|refine A.s rfl ?_|refine A.r rfl rfl ?_|refine A.w rfl rfl ?_|refine A.p rfl ?_|refine A.b rfl fun bx=>?_|refine A.t rfl fun bl=>?_); refine A.ret1 (Λ' := []) rfl rfl rfl (List.nil_sublist _) ⟨?_, rfl⟩; refine Sb.eq (ab_eq ?_); simp only [nameB, decide_eq_false h1]; rfl
    cases h2 : letterB b.toNat with
    | false =>
      rw [h2] at hl
      refine Pure.of (S := tt) (fn := Try.f46) (n := 27) tt_ok Try.func46 rfl rfl rfl rfl fun w0 h0 F hgs => ?_
      (repeat first|refine A.s rfl ?_|refine A.r rfl rfl ?_|refine A.w rfl rfl ?_|refine A.p rfl ?_|refine A.b rfl fun bx=>?_|refine A.t rfl fun bl=>?_)
      refine A.valE 5 rfl (x' := AB true) (ab_eq (by rw [ne_nil]; rfl)) ?_
      (repeat first|refine A.s rfl ?_|refine A.r rfl rfl ?_|refine A.w rfl rfl ?_|refine A.p rfl ?_|refine A.b rfl fun bx=>?_|refine A.t rfl fun bl=>?_)
      refine A.valE 10 rfl (x' := AB true) (ab_eq (by show decide (((b :: r).length : Int) ≤ 32) = true; simp; simp at h1; omega)) ?_
      (repeat first|refine A.s rfl ?_|refine A.r rfl rfl ?_|refine A.w rfl rfl ?_|refine A.p rfl ?_|refine A.b rfl fun bx=>?_|refine A.t rfl fun bl=>?_)
      refine A.n rfl (by omega) (b := b) rfl rfl ?_
      refine A.c rfl hl .refl ?_
      (repeat first|refine A.s rfl ?_|refine A.r rfl rfl ?_|refine A.w rfl rfl ?_|refine A.p rfl ?_|refine A.b rfl fun bx=>?_|refine A.t rfl fun bl=>?_); refine A.ret1 (Λ' := []) rfl rfl rfl (List.nil_sublist _) ⟨?_, rfl⟩; refine Sb.eq (ab_eq ?_); simp only [nameB, h2, Bool.and_false, Bool.false_and]
    | true =>
      rw [h2] at hl
      by_cases h3 : runN (b :: r) = (b :: r).length
      · refine Pure.of (S := tt) (fn := Try.f46) (n := 27) tt_ok Try.func46 rfl rfl rfl rfl fun w0 h0 F hgs => ?_
        (repeat first|refine A.s rfl ?_|refine A.r rfl rfl ?_|refine A.w rfl rfl ?_|refine A.p rfl ?_|refine A.b rfl fun bx=>?_|refine A.t rfl fun bl=>?_)
        refine A.valE 5 rfl (x' := AB true) (ab_eq (by rw [ne_nil]; rfl)) ?_
        (repeat first|refine A.s rfl ?_|refine A.r rfl rfl ?_|refine A.w rfl rfl ?_|refine A.p rfl ?_|refine A.b rfl fun bx=>?_|refine A.t rfl fun bl=>?_)
        refine A.valE 10 rfl (x' := AB true) (ab_eq (by show decide (((b :: r).length : Int) ≤ 32) = true; simp; simp at h1; omega)) ?_
        (repeat first|refine A.s rfl ?_|refine A.r rfl rfl ?_|refine A.w rfl rfl ?_|refine A.p rfl ?_|refine A.b rfl fun bx=>?_|refine A.t rfl fun bl=>?_)
        refine A.n rfl (by omega) (b := b) rfl rfl ?_
        refine A.c rfl hl .refl ?_
        (repeat first|refine A.s rfl ?_|refine A.r rfl rfl ?_|refine A.w rfl rfl ?_|refine A.p rfl ?_|refine A.b rfl fun bx=>?_|refine A.t rfl fun bl=>?_); refine A.c rfl hr .refl ?_
        (repeat first|refine A.s rfl ?_|refine A.r rfl rfl ?_|refine A.w rfl rfl ?_|refine A.p rfl ?_|refine A.b rfl fun bx=>?_|refine A.t rfl fun bl=>?_)
        refine A.valE 22 rfl (x' := AB true) (ab_eq (by rw [h3]; exact beq_self_eq_true _)) ?_
        (repeat first|refine A.s rfl ?_|refine A.r rfl rfl ?_|refine A.w rfl rfl ?_|refine A.p rfl ?_|refine A.b rfl fun bx=>?_|refine A.t rfl fun bl=>?_); refine A.c rfl hk .refl ?_
        (repeat first|refine A.s rfl ?_|refine A.r rfl rfl ?_|refine A.w rfl rfl ?_|refine A.p rfl ?_|refine A.b rfl fun bx=>?_|refine A.t rfl fun bl=>?_); refine A.ret1 (Λ' := []) rfl rfl rfl (List.nil_sublist _) ⟨?_, rfl⟩; refine Sb.eq (ab_eq ?_); simp only [nameB, h2, h3, decide_eq_true h1, Bool.true_and, beq_self_eq_true]; rfl
      · refine Pure.of (S := tt) (fn := Try.f46) (n := 27) tt_ok Try.func46 rfl rfl rfl rfl fun w0 h0 F hgs => ?_
        (repeat first|refine A.s rfl ?_|refine A.r rfl rfl ?_|refine A.w rfl rfl ?_|refine A.p rfl ?_|refine A.b rfl fun bx=>?_|refine A.t rfl fun bl=>?_)
        refine A.valE 5 rfl (x' := AB true) (ab_eq (by rw [ne_nil]; rfl)) ?_
        (repeat first|refine A.s rfl ?_|refine A.r rfl rfl ?_|refine A.w rfl rfl ?_|refine A.p rfl ?_|refine A.b rfl fun bx=>?_|refine A.t rfl fun bl=>?_)
        refine A.valE 10 rfl (x' := AB true) (ab_eq (by show decide (((b :: r).length : Int) ≤ 32) = true; simp; simp at h1; omega)) ?_
        (repeat first|refine A.s rfl ?_|refine A.r rfl rfl ?_|refine A.w rfl rfl ?_|refine A.p rfl ?_|refine A.b rfl fun bx=>?_|refine A.t rfl fun bl=>?_)
        refine A.n rfl (by omega) (b := b) rfl rfl ?_
        refine A.c rfl hl .refl ?_
        (repeat first|refine A.s rfl ?_|refine A.r rfl rfl ?_|refine A.w rfl rfl ?_|refine A.p rfl ?_|refine A.b rfl fun bx=>?_|refine A.t rfl fun bl=>?_); refine A.c rfl hr .refl ?_
        (repeat first|refine A.s rfl ?_|refine A.r rfl rfl ?_|refine A.w rfl rfl ?_|refine A.p rfl ?_|refine A.b rfl fun bx=>?_|refine A.t rfl fun bl=>?_)
        refine A.valE 22 rfl (x' := AB false) (ab_eq (beq_eq_false_iff_ne.2 (by show ((runN (b :: r) : Nat) : Int) ≠ ((b :: r).length : Nat); omega))) ?_
        (repeat first|refine A.s rfl ?_|refine A.r rfl rfl ?_|refine A.w rfl rfl ?_|refine A.p rfl ?_|refine A.b rfl fun bx=>?_|refine A.t rfl fun bl=>?_); refine A.ret1 (Λ' := []) rfl rfl rfl (List.nil_sublist _) ⟨?_, rfl⟩; refine Sb.eq (ab_eq ?_); simp only [nameB, h2, beq_eq_false_iff_ne.2 h3, Bool.and_false, Bool.false_and]
end Go.Proofs.Ytbdjbmbghfbenaa
