/-
  Layer 8 by the document: letters, reserved words, names; that both texts agree.
-/
import Derived.Test.YtlnbmocgnkjlfaaGreatQ08a
import Derived.Test.YtlnbmocgnkjlfaaGreatQ0i
import Derived.Test.YtlnbmocgnkjlfaaGreatLd

namespace Go.Proofs.YtlnbmocgnkjlfaaGreat
open Go Go.Tp
set_option linter.unusedVariables false
set_option linter.unusedSimpArgs false
set_option maxRecDepth 100000
set_option maxHeartbeats 4000000

/-! ### the reserved words in one text, and in a list -/
def noSp (l : List UInt8) : Prop := ∀ b, b ∈ l → b ≠ 32
def joinW (ws : List (List UInt8)) : List UInt8 := ws.flatMap (· ++ [32])
theorem has_cons (b : UInt8) (l sub : List UInt8) : Lib.contains (b :: l) sub = (sub.isPrefixOf (b :: l) || Lib.contains l sub) := by
  unfold Lib.contains
  rw [Lib.index]
  cases hp : sub.isPrefixOf (b :: l) with
  | true => simp
  | false =>
    have := Lib.index_ge l sub
    by_cases h : Lib.index l sub = -1
    · simp [h]
    · have h2 : (Lib.index l sub == -1) = false := by simpa using h
      simp only [h2, Bool.false_eq_true, if_false, Bool.false_or]
      rw [decide_eq_decide]; omega
theorem has_skip {s : List UInt8} : ∀ (w l : List UInt8), noSp w → Lib.contains (w ++ l) (32 :: s) = Lib.contains l (32 :: s)
  | [], l, _ => rfl
  | b :: w, l, h => by
    have h1 : b ≠ 32 := h b (List.mem_cons_self ..)
    have h2 : ((32 : UInt8) == b) = false := by simpa using fun h => h1 h.symm
    rw [List.cons_append, has_cons, has_skip w l (fun x hx => h x (List.mem_cons_of_mem _ hx))]
    simp [List.isPrefixOf, h2]
theorem pre_word : ∀ (s w l : List UInt8), noSp s → noSp w → (s ++ [32]).isPrefixOf (w ++ 32 :: l) = (w == s)
  | [], [], l, _, _ => by simp [List.isPrefixOf]
  | [], b :: w, l, _, hw => by
    have h2 : ((32 : UInt8) == b) = false := by simpa using fun h => hw b (List.mem_cons_self ..) h.symm
    simp [List.isPrefixOf, h2]
  | a :: s, [], l, hs, _ => by
    have h2 : (a == (32 : UInt8)) = false := by simpa using hs a (List.mem_cons_self ..)
    simp [List.isPrefixOf, h2]
  | a :: s, b :: w, l, hs, hw => by
    have ih := pre_word s w l (fun x hx => hs x (List.mem_cons_of_mem _ hx)) (fun x hx => hw x (List.mem_cons_of_mem _ hx))
    simp only [List.cons_append, List.isPrefixOf, ih, List.cons_beq_cons]
    rw [Bool.beq_comm]
theorem has_words {s : List UInt8} (hs : noSp s) : ∀ (ws : List (List UInt8)), (∀ w, w ∈ ws → noSp w) → Lib.contains (32 :: joinW ws) (32 :: s ++ [32]) = ws.any (· == s)
  | [], _ => by
    rw [has_cons]
    cases s <;> simp [joinW, List.isPrefixOf, Lib.contains, Lib.index]
  | w :: ws, h => by
    have hw := h w (List.mem_cons_self ..)
    have ih := has_words hs ws (fun x hx => h x (List.mem_cons_of_mem _ hx))
    have e : joinW (w :: ws) = w ++ 32 :: joinW ws := by simp [joinW]
    rw [has_cons, e, List.cons_append, has_skip w _ hw, ← List.cons_append, ih]
    simp only [List.cons_append, List.isPrefixOf, beq_self_eq_true, Bool.true_and, pre_word s w _ hs hw, List.any_cons]
def keyWs : List (List UInt8) := [[65, 70, 84, 69, 82], [65, 76, 84], [65, 78, 68], [66, 79, 79, 76], [66, 89, 84, 69], [67, 65, 83, 69], [67, 72, 65, 78], [69, 76, 83, 69], [70, 65, 76, 83, 69], [70, 79, 82], [73, 70], [73, 78, 84], [73, 83], [77, 73, 78, 85, 83], [78, 79, 84], [79, 70], [79, 82], [80, 65, 82], [80, 76, 65, 67, 69, 68], [80, 76, 85, 83], [80, 82, 73], [80, 82, 79, 67], [80, 82, 79, 67, 69, 83, 83, 79, 82], [80, 82, 79, 84, 79, 67, 79, 76], [83, 69, 81], [83, 73, 90, 69], [83, 75, 73, 80], [83, 84, 79, 80], [84, 73, 77, 69, 82], [84, 73, 77, 69, 83], [84, 82, 85, 69], [86, 65, 76], [87, 72, 73, 76, 69]]
theorem keysL_join : keysL = 32 :: joinW keyWs := by decide
theorem keyWs_sp : ∀ w, w ∈ keyWs → noSp w := by
  have h : keyWs.all (fun w => w.all (fun b => b != 32)) = true := by decide
  intro w hw b hb
  have h1 := List.all_eq_true.1 h w hw
  have h2 := List.all_eq_true.1 h1 b hb
  simpa using h2
theorem runN_all (s : List UInt8) : (runN s == s.length) = s.all (fun b => wordB b.toNat) := by
  unfold runN
  induction s with
  | nil => rfl
  | cons b r ih =>
    cases h : wordB b.toNat with
    | true => simpa [List.takeWhile_cons, h] using ih
    | false => simp [List.takeWhile_cons, h]
theorem word_sp {s : List UInt8} (h : s.all (fun b => wordB b.toNat) = true) : noSp s := by
  intro b hb h32
  have := List.all_eq_true.1 h b hb
  subst h32
  revert this; decide
def nameR (s : List UInt8) : Bool := match s with
  | [] => false
  | b :: r => decide ((b :: r).length ≤ 32) && letterB b.toNat && !keyWs.any (· == b :: r) && (b :: r).all (fun b => wordB b.toNat)
theorem nameR_eq (s : List UInt8) : nameR s = nameB s := by
  cases s with
  | nil => rfl
  | cons b r =>
    simp only [nameR, nameB, keyB, runN_all]
    cases ha : (b :: r).all (fun b => wordB b.toNat) with
    | false => simp
    | true =>
      rw [keysL_join, has_words (word_sp ha) keyWs keyWs_sp]
      simp

/-! ### the functions -/
theorem letter8_p (c : Int) : Pure Tryz.prog gs0 99 [AU8 c] (AB (letterB c)) := by
  refine Pure.of (S := tt) (fn := Tryz.f99) (n := 17) tt_ok Tryz.func99 rfl rfl rfl rfl fun w0 h0 F hgs => ?_
  (repeat first|refine A.s rfl ?_|refine A.r rfl rfl ?_|refine A.w rfl rfl ?_|refine A.p rfl ?_|refine A.b rfl fun bx=>?_|refine A.t rfl fun bl=>?_|refine A.step rfl ?_|refine A.v rfl rfl ?_); refine A.ret1 (Λ' := []) rfl rfl rfl (List.nil_sublist _) ⟨?_, rfl⟩
  refine Sb.eq (ab_eq ?_)
  rw [Bool.eq_iff_iff]; simp [letterB]; omega
theorem digit8_p (c : Int) : Pure Tryz.prog gs0 105 [AU8 c] (AB (digitB c)) := by
  refine Pure.of (S := tt) (fn := Tryz.f105) (n := 9) tt_ok Tryz.func105 rfl rfl rfl rfl fun w0 h0 F hgs => ?_
  (repeat first|refine A.s rfl ?_|refine A.r rfl rfl ?_|refine A.w rfl rfl ?_|refine A.p rfl ?_|refine A.b rfl fun bx=>?_|refine A.t rfl fun bl=>?_|refine A.step rfl ?_|refine A.v rfl rfl ?_); refine A.ret1 (Λ' := []) rfl rfl rfl (List.nil_sublist _) ⟨?_, rfl⟩
  refine Sb.eq (ab_eq ?_)
  rw [Bool.eq_iff_iff]; simp [digitB]
theorem word8_p (c : Int) : Pure Tryz.prog gs0 101 [AU8 c] (AB (wordB c)) := by
  have h1 := letter8_p c
  have h2 := digit8_p c
  have hd : wordB c = (letterB c || digitB c || c == 46) := rfl
  cases hl : letterB c with
  | true =>
    rw [hl] at h1
    refine Pure.of (S := tt) (fn := Tryz.f101) (n := 13) tt_ok Tryz.func101 rfl rfl rfl rfl fun w0 h0 F hgs => ?_
    (repeat first|refine A.s rfl ?_|refine A.r rfl rfl ?_|refine A.w rfl rfl ?_|refine A.p rfl ?_|refine A.b rfl fun bx=>?_|refine A.t rfl fun bl=>?_|refine A.step rfl ?_|refine A.v rfl rfl ?_); refine A.c rfl h1 .refl ?_; (repeat first|refine A.s rfl ?_|refine A.r rfl rfl ?_|refine A.w rfl rfl ?_|refine A.p rfl ?_|refine A.b rfl fun bx=>?_|refine A.t rfl fun bl=>?_|refine A.step rfl ?_|refine A.v rfl rfl ?_); refine A.ret1 (Λ' := []) rfl rfl rfl (List.nil_sublist _) ⟨?_, rfl⟩; refine Sb.eq (ab_eq ?_); rw [hd, hl]; rfl
  | false =>
    rw [hl] at h1
    cases hg : digitB c with
    | true =>
      rw [hg] at h2
      refine Pure.of (S := tt) (fn := Tryz.f101) (n := 13) tt_ok Tryz.func101 rfl rfl rfl rfl fun w0 h0 F hgs => ?_
      (repeat first|refine A.s rfl ?_|refine A.r rfl rfl ?_|refine A.w rfl rfl ?_|refine A.p rfl ?_|refine A.b rfl fun bx=>?_|refine A.t rfl fun bl=>?_|refine A.step rfl ?_|refine A.v rfl rfl ?_); refine A.c rfl h1 .refl ?_; (repeat first|refine A.s rfl ?_|refine A.r rfl rfl ?_|refine A.w rfl rfl ?_|refine A.p rfl ?_|refine A.b rfl fun bx=>?_|refine A.t rfl fun bl=>?_|refine A.step rfl ?_|refine A.v rfl rfl ?_); refine A.c rfl h2 .refl ?_; (repeat first|refine A.s rfl ?_|refine A.r rfl rfl ?_|refine A.w rfl rfl ?_|refine A.p rfl ?_|refine A.b rfl fun bx=>?_|refine A.t rfl fun bl=>?_|refine A.step rfl ?_|refine A.v rfl rfl ?_); refine A.ret1 (Λ' := []) rfl rfl rfl (List.nil_sublist _) ⟨?_, rfl⟩; refine Sb.eq (ab_eq ?_); rw [hd, hl, hg]; rfl
    | false =>
      rw [hg] at h2
      refine Pure.of (S := tt) (fn := Tryz.f101) (n := 13) tt_ok Tryz.func101 rfl rfl rfl rfl fun w0 h0 F hgs => ?_
      (repeat first|refine A.s rfl ?_|refine A.r rfl rfl ?_|refine A.w rfl rfl ?_|refine A.p rfl ?_|refine A.b rfl fun bx=>?_|refine A.t rfl fun bl=>?_|refine A.step rfl ?_|refine A.v rfl rfl ?_); refine A.c rfl h1 .refl ?_; (repeat first|refine A.s rfl ?_|refine A.r rfl rfl ?_|refine A.w rfl rfl ?_|refine A.p rfl ?_|refine A.b rfl fun bx=>?_|refine A.t rfl fun bl=>?_|refine A.step rfl ?_|refine A.v rfl rfl ?_); refine A.c rfl h2 .refl ?_; (repeat first|refine A.s rfl ?_|refine A.r rfl rfl ?_|refine A.w rfl rfl ?_|refine A.p rfl ?_|refine A.b rfl fun bx=>?_|refine A.t rfl fun bl=>?_|refine A.step rfl ?_|refine A.v rfl rfl ?_); refine A.ret1 (Λ' := []) rfl rfl rfl (List.nil_sublist _) ⟨?_, rfl⟩; refine Sb.eq (ab_eq ?_); rw [hd, hl, hg]; rfl
theorem among_p (s : List UInt8) (l : List (List UInt8)) (hb : l.length ≤ 281474976710656) : Pure Tryz.prog gs0 103 [AS s, .sl 1 (l.map AS) none] (AB (l.any (· == s))) := by
  have hl : ((l.map AS).length : Int) = l.length := by rw [List.length_map]
  refine Pure.of (S := tt) (fn := Tryz.f103) (n := 18) tt_ok Tryz.func103 rfl rfl rfl rfl fun w0 h0 F hgs => ?_
  (repeat first|refine A.s rfl ?_|refine A.r rfl rfl ?_|refine A.w rfl rfl ?_|refine A.p rfl ?_|refine A.b rfl fun bx=>?_|refine A.t rfl fun bl=>?_)
  refine A.keep [0, 1, 4, 5] rfl ?_
  refine A.loopP (ι := Nat) (fun i => (⟨[(0, AS s), (1, .sl 1 (l.map AS) none), (4, AB false), (5, AI (i : Int))], []⟩, []))
    (fun i => i ≤ l.length ∧ l.any (· == s) = (l.drop i).any (· == s)) (fun i => l.length - i) 0 ⟨Nat.zero_le _, rfl⟩ rfl fun i hi ih => ?_
  (repeat first|refine A.s rfl ?_|refine A.r rfl rfl ?_|refine A.w rfl rfl ?_|refine A.p rfl ?_|refine A.b rfl fun bx=>?_|refine A.t rfl fun bl=>?_)
  refine A.valE 8 rfl (x' := AI (l.length : Nat)) (ai_eq hl) ?_
  (repeat first|refine A.s rfl ?_|refine A.r rfl rfl ?_|refine A.w rfl rfl ?_|refine A.p rfl ?_|refine A.b rfl fun bx=>?_|refine A.t rfl fun bl=>?_)
  refine A.cond rfl (fun hc => ?_) (fun hc => ?_)
  · simp at hc
    refine Exists.elim (at_exN (l := l) (i := i) hc) fun x hx => ?_
    have h1 := hi.2
    rw [drop_at hx, List.any_cons] at h1
    (repeat first|refine A.s rfl ?_|refine A.r rfl rfl ?_|refine A.w rfl rfl ?_|refine A.p rfl ?_|refine A.b rfl fun bx=>?_|refine A.t rfl fun bl=>?_)
    refine A.x rfl (by omega) (map_at hx) rfl rfl ?_
    (repeat first|refine A.s rfl ?_|refine A.r rfl rfl ?_|refine A.w rfl rfl ?_|refine A.p rfl ?_|refine A.b rfl fun bx=>?_|refine A.t rfl fun bl=>?_)
    ((fail_if_success (refine A.lit? rfl ?_)); refine A.gS rfl (fun hc => ?_) (fun hc => ?_))
    · have hc : (x == s) = true := by rw [bs_eq] at hc; exact hc
      rw [hc, Bool.true_or] at h1
      (repeat first|refine A.s rfl ?_|refine A.r rfl rfl ?_|refine A.w rfl rfl ?_|refine A.p rfl ?_|refine A.b rfl fun bx=>?_|refine A.t rfl fun bl=>?_); refine A.ret1 (Λ' := []) rfl rfl rfl (List.nil_sublist _) ⟨?_, rfl⟩; exact Sb.eq (ab_eq h1.symm)
    · have hc : (x == s) = false := by rw [bs_eq] at hc; exact hc
      rw [hc, Bool.false_or] at h1
      (repeat first|refine A.s rfl ?_|refine A.r rfl rfl ?_|refine A.w rfl rfl ?_|refine A.p rfl ?_|refine A.b rfl fun bx=>?_|refine A.t rfl fun bl=>?_)
      refine A.valE 5 rfl (x' := AI ((i + 1 : Nat) : Int)) (inc_eq i (by omega)) ?_
      refine A.sub (by repeat (first | exact trivial | refine ⟨⟨_, rfl, .refl⟩, ?_⟩)) (ih (i + 1) ⟨by omega, h1⟩ (by omega))
  · simp at hc
    have h1 := hi.2
    rw [List.drop_eq_nil_of_le (by omega)] at h1
    (repeat first|refine A.s rfl ?_|refine A.r rfl rfl ?_|refine A.w rfl rfl ?_|refine A.p rfl ?_|refine A.b rfl fun bx=>?_|refine A.t rfl fun bl=>?_); refine A.ret1 (Λ' := []) rfl rfl rfl (List.nil_sublist _) ⟨?_, rfl⟩; exact Sb.eq (ab_eq h1.symm)
theorem keys8_p : Pure Tryz.prog gs0 104 [] (.sl 1 (keyWs.map AS) none) := by
  refine Pure.of (S := tt) (fn := Tryz.f104) (n := 2) tt_ok Tryz.func104 rfl rfl rfl rfl fun w0 h0 F hgs => ?_
  (repeat first|refine A.s rfl ?_|refine A.r rfl rfl ?_|refine A.w rfl rfl ?_|refine A.p rfl ?_|refine A.b rfl fun bx=>?_|refine A.t rfl fun bl=>?_); refine A.ret1 (Λ' := []) rfl rfl rfl (List.nil_sublist _) ⟨?_, rfl⟩; exact Sb.own1
theorem key8_p (s : List UInt8) : Pure Tryz.prog gs0 100 [AS s] (AB (keyWs.any (· == s))) := by
  have h1 := keys8_p
  have h2 := among_p s keyWs (by decide)
  refine Pure.of (S := tt) (fn := Tryz.f100) (n := 6) tt_ok Tryz.func100 rfl rfl rfl rfl fun w0 h0 F hgs => ?_
  (repeat first|refine A.s rfl ?_|refine A.r rfl rfl ?_|refine A.w rfl rfl ?_|refine A.p rfl ?_|refine A.b rfl fun bx=>?_|refine A.t rfl fun bl=>?_); refine A.c rfl h1 .refl ?_
  refine A.c rfl h2 .refl ?_
  (repeat first|refine A.s rfl ?_|refine A.r rfl rfl ?_|refine A.w rfl rfl ?_|refine A.p rfl ?_|refine A.b rfl fun bx=>?_|refine A.t rfl fun bl=>?_); refine A.ret1 (Λ' := []) rfl rfl rfl (List.nil_sublist _) ⟨?_, rfl⟩; exact .refl
theorem name8_p (s : List UInt8) (hs : s.length ≤ 281474976710656) : Pure Tryz.prog gs0 90 [AS s] (AB (nameR s)) := by
  have hk := key8_p s
  cases s with
  | nil =>
    refine Pure.of (S := tt) (fn := Tryz.f90) (n := 33) tt_ok Tryz.func90 rfl rfl rfl rfl fun w0 h0 F hgs => ?_
    (repeat first|refine A.s rfl ?_|refine A.r rfl rfl ?_|refine A.w rfl rfl ?_|refine A.p rfl ?_|refine A.b rfl fun bx=>?_|refine A.t rfl fun bl=>?_); refine A.ret1 (Λ' := []) rfl rfl rfl (List.nil_sublist _) ⟨?_, rfl⟩; exact .refl
  | cons b r =>
    have hl := letter8_p b.toNat
    have h1 : ¬ (((b :: r).length : Nat) : Int) < 1 := by simp only [List.length_cons]; omega
    have hz : (((b :: r).toArray.size : Nat) : Int) = ((b :: r).length : Nat) := by simp
    by_cases h2 : (b :: r).length ≤ 32
    case neg =>
      have hn : nameR (b :: r) = false := by simp only [nameR, decide_eq_false h2, Bool.false_and]
      rw [hn]
      refine Pure.of (S := tt) (fn := Tryz.f90) (n := 33) tt_ok Tryz.func90 rfl rfl rfl rfl fun w0 h0 F hgs => ?_
      (repeat first|refine A.s rfl ?_|refine A.r rfl rfl ?_|refine A.w rfl rfl ?_|refine A.p rfl ?_|refine A.b rfl fun bx=>?_|refine A.t rfl fun bl=>?_)
      refine A.gT rfl (decide_eq_true (by show (32 : Int) < ((b :: r).length : Nat); omega)) ?_
      (repeat first|refine A.s rfl ?_|refine A.r rfl rfl ?_|refine A.w rfl rfl ?_|refine A.p rfl ?_|refine A.b rfl fun bx=>?_|refine A.t rfl fun bl=>?_); refine A.ret1 (Λ' := []) rfl rfl rfl (List.nil_sublist _) ⟨?_, rfl⟩; exact .refl
    cases h3 : letterB b.toNat with
    | false =>
      have hn : nameR (b :: r) = false := by simp only [nameR, h3, Bool.and_false, Bool.false_and]
      rw [h3] at hl
      rw [hn]
      refine Pure.of (S := tt) (fn := Tryz.f90) (n := 33) tt_ok Tryz.func90 rfl rfl rfl rfl fun w0 h0 F hgs => ?_
      (repeat first|refine A.s rfl ?_|refine A.r rfl rfl ?_|refine A.w rfl rfl ?_|refine A.p rfl ?_|refine A.b rfl fun bx=>?_|refine A.t rfl fun bl=>?_)
      refine A.gF rfl (decide_eq_false (by show ¬ (32 : Int) < ((b :: r).length : Nat); omega)) ?_
      (repeat first|refine A.s rfl ?_|refine A.r rfl rfl ?_|refine A.w rfl rfl ?_|refine A.p rfl ?_|refine A.b rfl fun bx=>?_|refine A.t rfl fun bl=>?_)
      refine A.n rfl (by omega) (b := b) rfl rfl ?_
      refine A.c rfl hl .refl ?_
      (repeat first|refine A.s rfl ?_|refine A.r rfl rfl ?_|refine A.w rfl rfl ?_|refine A.p rfl ?_|refine A.b rfl fun bx=>?_|refine A.t rfl fun bl=>?_); refine A.ret1 (Λ' := []) rfl rfl rfl (List.nil_sublist _) ⟨?_, rfl⟩; exact .refl
    | true =>
    rw [h3] at hl
    cases h4 : keyWs.any (· == b :: r) with
    | true =>
      have hn : nameR (b :: r) = false := by simp only [nameR, h4, Bool.not_true, Bool.and_false, Bool.false_and]
      rw [h4] at hk
      rw [hn]
      refine Pure.of (S := tt) (fn := Tryz.f90) (n := 33) tt_ok Tryz.func90 rfl rfl rfl rfl fun w0 h0 F hgs => ?_
      (repeat first|refine A.s rfl ?_|refine A.r rfl rfl ?_|refine A.w rfl rfl ?_|refine A.p rfl ?_|refine A.b rfl fun bx=>?_|refine A.t rfl fun bl=>?_)
      refine A.gF rfl (decide_eq_false (by show ¬ (32 : Int) < ((b :: r).length : Nat); omega)) ?_
      (repeat first|refine A.s rfl ?_|refine A.r rfl rfl ?_|refine A.w rfl rfl ?_|refine A.p rfl ?_|refine A.b rfl fun bx=>?_|refine A.t rfl fun bl=>?_)
      refine A.n rfl (by omega) (b := b) rfl rfl ?_
      refine A.c rfl hl .refl ?_
      (repeat first|refine A.s rfl ?_|refine A.r rfl rfl ?_|refine A.w rfl rfl ?_|refine A.p rfl ?_|refine A.b rfl fun bx=>?_|refine A.t rfl fun bl=>?_)
      refine A.c rfl hk .refl ?_
      (repeat first|refine A.s rfl ?_|refine A.r rfl rfl ?_|refine A.w rfl rfl ?_|refine A.p rfl ?_|refine A.b rfl fun bx=>?_|refine A.t rfl fun bl=>?_); refine A.ret1 (Λ' := []) rfl rfl rfl (List.nil_sublist _) ⟨?_, rfl⟩; exact .refl
    | false =>
    have hn : nameR (b :: r) = (b :: r).all (fun b => wordB b.toNat) := by simp only [nameR, h3, h4, decide_eq_true h2, Bool.not_false, Bool.true_and]
    rw [h4] at hk
    rw [hn]
    generalize hl0 : b :: r = l at *
    have hw := fun x : UInt8 => word8_p x.toNat
    refine Pure.of (S := tt) (fn := Tryz.f90) (n := 33) tt_ok Tryz.func90 rfl rfl rfl rfl fun w0 h0 F hgs => ?_
    (repeat first|refine A.s rfl ?_|refine A.r rfl rfl ?_|refine A.w rfl rfl ?_|refine A.p rfl ?_|refine A.b rfl fun bx=>?_|refine A.t rfl fun bl=>?_)
    refine A.gF rfl (decide_eq_false h1) ?_
    (repeat first|refine A.s rfl ?_|refine A.r rfl rfl ?_|refine A.w rfl rfl ?_|refine A.p rfl ?_|refine A.b rfl fun bx=>?_|refine A.t rfl fun bl=>?_)
    refine A.gF rfl (decide_eq_false (by show ¬ (32 : Int) < (l.length : Nat); omega)) ?_
    (repeat first|refine A.s rfl ?_|refine A.r rfl rfl ?_|refine A.w rfl rfl ?_|refine A.p rfl ?_|refine A.b rfl fun bx=>?_|refine A.t rfl fun bl=>?_)
    refine A.n rfl (by omega) (b := b) (by rw [← hl0]; rfl) rfl ?_
    refine A.c rfl hl .refl ?_
    (repeat first|refine A.s rfl ?_|refine A.r rfl rfl ?_|refine A.w rfl rfl ?_|refine A.p rfl ?_|refine A.b rfl fun bx=>?_|refine A.t rfl fun bl=>?_)
    refine A.c rfl hk .refl ?_
    (repeat first|refine A.s rfl ?_|refine A.r rfl rfl ?_|refine A.w rfl rfl ?_|refine A.p rfl ?_|refine A.b rfl fun bx=>?_|refine A.t rfl fun bl=>?_)
    refine A.keep [0, 2, 3] rfl ?_
    refine A.loopP (ι := Nat) (fun i => (⟨[(0, AS l), (2, AB false), (3, AI (i : Int))], []⟩, []))
      (fun i => i ≤ l.length ∧ l.all (fun b => wordB b.toNat) = (l.drop i).all (fun b => wordB b.toNat)) (fun i => l.length - i) 0 ⟨Nat.zero_le _, rfl⟩ rfl fun i hi ih => ?_
    (repeat first|refine A.s rfl ?_|refine A.r rfl rfl ?_|refine A.w rfl rfl ?_|refine A.p rfl ?_|refine A.b rfl fun bx=>?_|refine A.t rfl fun bl=>?_)
    refine A.cond rfl (fun hc => ?_) (fun hc => ?_)
    · have hc : i < l.length := by have := of_decide_eq_true hc; have h5 : ((i : Nat) : Int) < ((l.length : Nat) : Int) := this; omega
      refine Exists.elim (at_exN (l := l) (i := i) hc) fun x hx => ?_
      have h5 := hi.2
      rw [drop_at hx, List.all_cons] at h5
      have hwx := hw x
      (repeat first|refine A.s rfl ?_|refine A.r rfl rfl ?_|refine A.w rfl rfl ?_|refine A.p rfl ?_|refine A.b rfl fun bx=>?_|refine A.t rfl fun bl=>?_)
      refine A.n rfl (by omega) (b := x) hx rfl ?_
      refine A.c rfl hwx .refl ?_
      (repeat first|refine A.s rfl ?_|refine A.r rfl rfl ?_|refine A.w rfl rfl ?_|refine A.p rfl ?_|refine A.b rfl fun bx=>?_|refine A.t rfl fun bl=>?_)
      ((fail_if_success (refine A.lit? rfl ?_)); refine A.gS rfl (fun hc => ?_) (fun hc => ?_))
      · simp at hc
        rw [hc, Bool.false_and] at h5
        (repeat first|refine A.s rfl ?_|refine A.r rfl rfl ?_|refine A.w rfl rfl ?_|refine A.p rfl ?_|refine A.b rfl fun bx=>?_|refine A.t rfl fun bl=>?_); refine A.ret1 (Λ' := []) rfl rfl rfl (List.nil_sublist _) ⟨?_, rfl⟩; exact Sb.eq (ab_eq h5.symm)
      · simp at hc
        rw [hc, Bool.true_and] at h5
        (repeat first|refine A.s rfl ?_|refine A.r rfl rfl ?_|refine A.w rfl rfl ?_|refine A.p rfl ?_|refine A.b rfl fun bx=>?_|refine A.t rfl fun bl=>?_)
        refine A.valE 3 rfl (x' := AI ((i + 1 : Nat) : Int)) (inc_eq i (by omega)) ?_
        refine A.sub (by repeat (first | exact trivial | refine ⟨⟨_, rfl, .refl⟩, ?_⟩)) (ih (i + 1) ⟨by omega, h5⟩ (by omega))
    · have hc : ¬ i < l.length := by have := of_decide_eq_false hc; have h5 : ¬ ((i : Nat) : Int) < ((l.length : Nat) : Int) := this; omega
      have h5 := hi.2
      rw [List.drop_eq_nil_of_le (by omega)] at h5
      (repeat first|refine A.s rfl ?_|refine A.r rfl rfl ?_|refine A.w rfl rfl ?_|refine A.p rfl ?_|refine A.b rfl fun bx=>?_|refine A.t rfl fun bl=>?_); refine A.ret1 (Λ' := []) rfl rfl rfl (List.nil_sublist _) ⟨?_, rfl⟩; exact Sb.eq (ab_eq h5.symm)
end Go.Proofs.YtlnbmocgnkjlfaaGreat
