/-
  Chapter 23: far.
-/
import Derived.Test.YtpilobbmijpnoaaQ23c

namespace Go.Proofs.Ytpilobbmijpnoaa
open Go Go.Tp
set_option linter.unusedVariables false
set_option linter.unusedSimpArgs false
set_option maxRecDepth 100000
set_option maxHeartbeats 4000000

/-! ### sets, channel by channel -/
def orB (P : Nat → Bool) (m : Nat) : W64 := (List.range m).foldl (fun w x => if P x then w ||| bitW x else w) 0
theorem orB_succ (P : Nat → Bool) (m : Nat) : orB P (m + 1) = if P m then orB P m ||| bitW m else orB P m := by
  rw [orB, List.range_succ, List.foldl_append]; rfl
theorem orB_get (P : Nat → Bool) (m : Nat) (hm : m ≤ 64) (x : Nat) : (orB P m).getLsbD x = (decide (x < m) && P x) := by
  induction m with
  | zero => simp [orB]
  | succ m ih =>
    have ih := ih (by omega)
    rw [orB_succ]
    by_cases hx : x = m
    · subst hx
      cases hp : P x
      · simp [ih, hp]
      · simp [BitVec.getLsbD_or, ih, hp, bitW_get _ _ (show x < 64 by omega)]
    · have h1 : decide (x < m + 1) = decide (x < m) := by rw [Bool.eq_iff_iff]; simp; omega
      cases hp : P m
      · simp [ih, h1]
      · simp [BitVec.getLsbD_or, ih, h1, bitW_get _ _ (show m < 64 by omega), hx]
theorem bv_zero (w : W64) : w = 0 ↔ ∀ x, x < 64 → w.getLsbD x = false := by
  constructor
  · rintro rfl x _; simp
  · intro h; apply BitVec.eq_of_getLsbD_eq; intro i hi; simp [h i hi]
def cutU (P : Nat → Bool) (k : Int) (n : Nat → Int) (m : Nat) : Nat → Int := fun y => if decide (y < m) && P y then k else n y
theorem cutU_zero (P : Nat → Bool) (k : Int) (n : Nat → Int) : cutU P k n 0 = n := by funext y; simp [cutU]
theorem cutU_at (P : Nat → Bool) (k : Int) (n : Nat → Int) (m : Nat) : cutU P k n m m = n m := by simp [cutU]
theorem cutU_set {P : Nat → Bool} {k : Int} {n : Nat → Int} {m : Nat} (h : P m = true) : upd (cutU P k n m) m k = cutU P k n (m + 1) := by
  funext y
  simp only [upd, cutU]
  by_cases hy : y = m
  · subst hy; simp [h]
  · have h1 : decide (y < m + 1) = decide (y < m) := by rw [Bool.eq_iff_iff]; simp; omega
    rw [if_neg hy, h1]
theorem cutU_not {P : Nat → Bool} {k : Int} {n : Nat → Int} {m : Nat} (h : P m = false) : cutU P k n m = cutU P k n (m + 1) := by
  funext y
  simp only [cutU]
  by_cases hy : y = m
  · subst hy; simp [h]
  · have h1 : decide (y < m + 1) = decide (y < m) := by rw [Bool.eq_iff_iff]; simp; omega
    rw [h1]

/-! ### far -/
def newB (s : Nat → W64) (w : W64) (n : Nat → Int) (x : Nat) : Bool := n x == 0 && (s x &&& w) != 0
def farR (s : Nat → W64) : Nat → (Nat → Int) → W64 → Int → Nat → Int
  | 0, n, _, _ => n
  | f + 1, n, w, k => if w = 0 then n else farR s f (cutU (newB s w n) k n 64) (orB (newB s w n) 64) (k + 1)
def farF (s : Nat → W64) (to : Nat) : Nat → Int := farR s 66 (fun _ => 0) (bitW to) 1
def zeros (n : Nat → Int) : Nat := (List.range 64).countP fun x => n x == 0
theorem farR_zero (s : Nat → W64) (f : Nat) (n : Nat → Int) (k : Int) : farR s f n 0 k = n := by cases f <;> simp [farR]
theorem countP_lt {α : Type} {p q : α → Bool} {l : List α} (h : ∀ x, x ∈ l → q x = true → p x = true) {x : α} (hx : x ∈ l) (h1 : p x = true) (h2 : q x = false) : l.countP q < l.countP p := by
  induction l with
  | nil => cases hx
  | cons y l ih =>
    have hle : l.countP q ≤ l.countP p := List.countP_mono_left fun z hz => h z (List.mem_cons_of_mem _ hz)
    rw [List.countP_cons, List.countP_cons]
    rcases List.mem_cons.1 hx with rfl | hx
    · rw [h1, h2]; simp; omega
    · have := ih (fun z hz => h z (List.mem_cons_of_mem _ hz)) hx
      have h3 := h y (List.mem_cons_self ..)
      cases hq : q y
      · simp; split <;> omega
      · rw [h3 hq]; simp; omega
theorem zeros_lt {s : Nat → W64} {w : W64} {n : Nat → Int} {k : Int} (hk : 1 ≤ k) (h : orB (newB s w n) 64 ≠ 0) : zeros (cutU (newB s w n) k n 64) < zeros n := by
  rw [Ne, bv_zero] at h
  simp only [orB_get _ 64 (Nat.le_refl _)] at h
  have : ∃ x, x < 64 ∧ newB s w n x = true := by
    apply Classical.byContradiction
    intro hn
    apply h
    intro x hx
    cases hp : newB s w n x
    · simp
    · exact (hn ⟨x, hx, hp⟩).elim
  obtain ⟨x, hx, hp⟩ := this
  refine countP_lt (x := x) (fun y hy hq => ?_) (List.mem_range.2 hx) ?_ ?_
  · have hy := List.mem_range.1 hy
    simp only [cutU, hy, decide_true, Bool.true_and] at hq
    split at hq
    · simp at hq; omega
    · exact hq
  · simp only [newB, Bool.and_eq_true] at hp; exact hp.1
  · simp only [cutU, hx, decide_true, Bool.true_and, hp, if_true]; simp; omega
theorem zeros_le (n : Nat → Int) : zeros n ≤ 64 := by
  have := List.countP_le_length (p := fun x => n x == 0) (l := List.range 64)
  rw [List.length_range] at this; exact this

theorem far_p (s : Nat → W64) (to : Nat) (ht : to < 64) : Pure Try.prog gs0 18 [.ag (setL s), AI (to : Nat)] (.ag (intL (farF s to))) := by
  refine Pure.of (S := tt) (fn := Try.f18) (n := 44) tt_ok Try.func18 rfl rfl rfl rfl fun w0 h0 F hgs => ?_
  (repeat refine A.s rfl ?_)
  refine A.bl rfl (set_one s) fun b0 => ?_
  (repeat refine A.s rfl ?_)
  refine A.b rfl fun b1 => ?_
  refine A.headEq (.ag (intL fun _ => 0)) (by kernel_rfl) ?_
  (repeat first|refine A.s rfl ?_|refine A.r rfl rfl ?_|refine A.w rfl rfl ?_|refine A.p rfl ?_|refine A.b rfl fun bx=>?_|refine A.t rfl fun bl=>?_|refine A.step rfl ?_|refine A.v rfl rfl ?_)
  refine A.shift rfl rfl rfl rfl rfl rfl (by omega) ?_
  (repeat first|refine A.s rfl ?_|refine A.r rfl rfl ?_|refine A.w rfl rfl ?_|refine A.p rfl ?_|refine A.b rfl fun bx=>?_|refine A.t rfl fun bl=>?_|refine A.step rfl ?_|refine A.v rfl rfl ?_)
  refine A.valE 6 rfl (x' := U64 (bitW to)) (u64_eq (ushl to ht)) ?_
  (repeat first|refine A.s rfl ?_|refine A.r rfl rfl ?_|refine A.w rfl rfl ?_|refine A.p rfl ?_|refine A.b rfl fun bx=>?_|refine A.t rfl fun bl=>?_|refine A.step rfl ?_|refine A.v rfl rfl ?_)
  refine A.keep [2, 4, 5, 6, 7] rfl ?_
  refine A.valE 5 rfl (x' := U64 0) rfl ?_
  refine A.keep [2, 4, 5, 6, 7] rfl ?_
  refine A.loopP (ι := (Nat → Int) × W64 × W64 × Nat × Nat) (fun p => (⟨[(2, .v (.pointer (some ⟨b0, 0, none⟩))), (4, .v (.pointer (some ⟨b1, 0, none⟩))), (5, U64 p.2.1), (6, U64 p.2.2.1), (7, AI (p.2.2.2.1 : Nat))], []⟩, [.box b1 (.ag (intL p.1)), .box b0 (.ag (setL s))]))
    (fun p => farR s p.2.2.2.2 p.1 p.2.2.1 (p.2.2.2.1 : Nat) = farF s to ∧ (p.2.2.1 ≠ 0 → zeros p.1 + 1 ≤ p.2.2.2.2) ∧ p.2.2.2.2 + p.2.2.2.1 = 67 ∧ 1 ≤ p.2.2.2.1) (fun p => p.2.2.2.2) (fun _ => 0, 0, bitW to, 1, 66) ⟨rfl, fun _ => by have := zeros_le fun _ => 0; simp only; omega, rfl, by simp⟩ rfl fun q hi ih => ?_
  obtain ⟨n, rch, w, k, f⟩ := q
  simp only at hi ih ⊢
  (repeat first|refine A.s rfl ?_|refine A.r rfl rfl ?_|refine A.w rfl rfl ?_|refine A.p rfl ?_|refine A.b rfl fun bx=>?_|refine A.t rfl fun bl=>?_|refine A.step rfl ?_|refine A.v rfl rfl ?_)
  by_cases hw : w = 0
  · refine A.valE 13 rfl (x' := AB false) (ab_eq (by subst hw; rfl)) ?_
    (repeat refine A.s rfl ?_)
    refine A.la rfl (arr_len _) rfl ?_
    refine A.wl rfl (int_one _) (arr_len _) (arr_len _) ?_
    (repeat first|refine A.s rfl ?_|refine A.r rfl rfl ?_|refine A.w rfl rfl ?_|refine A.p rfl ?_|refine A.b rfl fun bx=>?_|refine A.t rfl fun bl=>?_|refine A.step rfl ?_|refine A.v rfl rfl ?_)
    refine A.retC (Λ' := []) rfl rfl rfl rfl (ldA_all rfl (arr_len _)) (List.nil_sublist _) ⟨?_, rfl⟩
    have h1 := hi.1
    rw [hw, farR_zero] at h1
    rw [h1]; exact .refl
  refine A.valE 13 rfl (x' := AB true) (ab_eq (by
    have h1 : w.toNat ≠ 0 := fun h => hw (BitVec.eq_of_toNat_eq (by rw [h]; rfl))
    simp; omega)) ?_
  have hz := hi.2.1 hw
  obtain ⟨f', rfl⟩ : ∃ f', f = f' + 1 := ⟨f - 1, by omega⟩
  have h1 := hi.1
  rw [farR, if_neg hw] at h1
  (repeat first|refine A.s rfl ?_|refine A.r rfl rfl ?_|refine A.w rfl rfl ?_|refine A.p rfl ?_|refine A.b rfl fun bx=>?_|refine A.t rfl fun bl=>?_|refine A.step rfl ?_|refine A.v rfl rfl ?_)
  refine A.valE 8 rfl (x' := U64 0) rfl ?_
  refine A.keep [2, 4, 5, 6, 7, 8, 16] rfl ?_
  refine A.loopP (ι := Nat) (fun x => (⟨[(2, .v (.pointer (some ⟨b0, 0, none⟩))), (4, .v (.pointer (some ⟨b1, 0, none⟩))), (5, U64 rch), (6, U64 w), (7, AI (k : Nat)), (8, U64 (orB (newB s w n) x)), (16, AI (x : Nat))], []⟩, [.box b1 (.ag (intL (cutU (newB s w n) (k : Nat) n x))), .box b0 (.ag (setL s))]))
    (fun x => x ≤ 64) (fun x => 64 - x) 0 (by omega) (by rw [cutU_zero]; rfl) fun x hx xh => ?_
  (repeat first|refine A.s rfl ?_|refine A.r rfl rfl ?_|refine A.w rfl rfl ?_|refine A.p rfl ?_|refine A.b rfl fun bx=>?_|refine A.t rfl fun bl=>?_|refine A.step rfl ?_|refine A.v rfl rfl ?_)
  refine A.cond rfl (fun hc => ?_) (fun hc => ?_)
  · simp at hc
    have hx64 : x < 64 := by omega
    (repeat first|refine A.s rfl ?_|refine A.r rfl rfl ?_|refine A.w rfl rfl ?_|refine A.p rfl ?_|refine A.b rfl fun bx=>?_|refine A.t rfl fun bl=>?_|refine A.step rfl ?_|refine A.v rfl rfl ?_)
    refine A.xa rfl (p := x) (by omega) (by omega) (off1 x) rfl ?_
    refine A.ra rfl (range_at _ hx64) rfl ?_
    (repeat first|refine A.s rfl ?_|refine A.r rfl rfl ?_|refine A.w rfl rfl ?_|refine A.p rfl ?_|refine A.b rfl fun bx=>?_|refine A.t rfl fun bl=>?_|refine A.step rfl ?_|refine A.v rfl rfl ?_)
    refine A.valE 23 rfl (x' := AB (n x == 0)) (ab_eq (by rw [cutU_at])) ?_
    ((fail_if_success (refine A.lit? rfl ?_)); refine A.gS rfl (fun hc => ?_) (fun hc => ?_))
    · (repeat first|refine A.s rfl ?_|refine A.r rfl rfl ?_|refine A.w rfl rfl ?_|refine A.p rfl ?_|refine A.b rfl fun bx=>?_|refine A.t rfl fun bl=>?_|refine A.step rfl ?_|refine A.v rfl rfl ?_)
      refine A.xa rfl (p := x) (by omega) (by omega) (off1 x) rfl ?_
      refine A.ra rfl (range_at _ hx64) rfl ?_
      (repeat first|refine A.s rfl ?_|refine A.r rfl rfl ?_|refine A.w rfl rfl ?_|refine A.p rfl ?_|refine A.b rfl fun bx=>?_|refine A.t rfl fun bl=>?_|refine A.step rfl ?_|refine A.v rfl rfl ?_)
      refine A.valE 30 rfl (x' := AB (newB s w n x)) (ab_eq ?_) ?_
      · rw [uand, newB, hc, Bool.eq_iff_iff]
        simp only [Bool.true_and, bne_iff_ne, ne_eq, Bool.cond_true]
        apply not_congr
        constructor
        · intro h; exact BitVec.eq_of_toNat_eq (by have h : ((s x &&& w).toNat : Int) = 0 := h; rw [show (0 : W64).toNat = 0 from rfl]; omega)
        · intro h; rw [h]; rfl
      cases hp : newB s w n x with
      | true =>
        (repeat first|refine A.s rfl ?_|refine A.r rfl rfl ?_|refine A.w rfl rfl ?_|refine A.p rfl ?_|refine A.b rfl fun bx=>?_|refine A.t rfl fun bl=>?_|refine A.step rfl ?_|refine A.v rfl rfl ?_)
        refine A.xa rfl (p := x) (by omega) (by omega) (off1 x) rfl ?_
        refine A.wa rfl rfl (by simp; omega) (range_set AI _ x (k : Nat)) ?_
        (repeat first|refine A.s rfl ?_|refine A.r rfl rfl ?_|refine A.w rfl rfl ?_|refine A.p rfl ?_|refine A.b rfl fun bx=>?_|refine A.t rfl fun bl=>?_|refine A.step rfl ?_|refine A.v rfl rfl ?_)
        refine A.shift rfl rfl rfl rfl rfl rfl (by omega) ?_
        (repeat first|refine A.s rfl ?_|refine A.r rfl rfl ?_|refine A.w rfl rfl ?_|refine A.p rfl ?_|refine A.b rfl fun bx=>?_|refine A.t rfl fun bl=>?_|refine A.step rfl ?_|refine A.v rfl rfl ?_)
        refine A.valE 8 rfl (x' := U64 (orB (newB s w n) (x + 1))) (u64_eq ?_) ?_
        · rw [ushl x hx64, uor, orB_succ, hp]; rfl
        refine A.valE 16 rfl (x' := AI ((x + 1 : Nat) : Int)) (inc_eq x (by omega)) ?_
        refine A.headEq (.ag (intL (cutU (newB s w n) (k : Nat) n (x + 1)))) (by rw [cutU_set hp]) ?_
        refine A.sub (by repeat (first | exact trivial | refine ⟨⟨_, rfl, .refl⟩, ?_⟩)) (xh (x + 1) (by omega) (by omega))
      | false =>
        (repeat first|refine A.s rfl ?_|refine A.r rfl rfl ?_|refine A.w rfl rfl ?_|refine A.p rfl ?_|refine A.b rfl fun bx=>?_|refine A.t rfl fun bl=>?_|refine A.step rfl ?_|refine A.v rfl rfl ?_)
        refine A.valE 8 rfl (x' := U64 (orB (newB s w n) (x + 1))) (by rw [orB_succ, hp]; rfl) ?_
        refine A.valE 16 rfl (x' := AI ((x + 1 : Nat) : Int)) (inc_eq x (by omega)) ?_
        refine A.headEq (.ag (intL (cutU (newB s w n) (k : Nat) n (x + 1)))) (by rw [← cutU_not hp]) ?_
        refine A.sub (by repeat (first | exact trivial | refine ⟨⟨_, rfl, .refl⟩, ?_⟩)) (xh (x + 1) (by omega) (by omega))
    · have hp : newB s w n x = false := by rw [newB, hc]; rfl
      (repeat first|refine A.s rfl ?_|refine A.r rfl rfl ?_|refine A.w rfl rfl ?_|refine A.p rfl ?_|refine A.b rfl fun bx=>?_|refine A.t rfl fun bl=>?_|refine A.step rfl ?_|refine A.v rfl rfl ?_)
      refine A.valE 8 rfl (x' := U64 (orB (newB s w n) (x + 1))) (by rw [orB_succ, hp]; rfl) ?_
      refine A.valE 16 rfl (x' := AI ((x + 1 : Nat) : Int)) (inc_eq x (by omega)) ?_
      refine A.headEq (.ag (intL (cutU (newB s w n) (k : Nat) n (x + 1)))) (by rw [← cutU_not hp]) ?_
      refine A.sub (by repeat (first | exact trivial | refine ⟨⟨_, rfl, .refl⟩, ?_⟩)) (xh (x + 1) (by omega) (by omega))
  · simp at hc
    have hx64 : x = 64 := by omega
    subst hx64
    (repeat first|refine A.s rfl ?_|refine A.r rfl rfl ?_|refine A.w rfl rfl ?_|refine A.p rfl ?_|refine A.b rfl fun bx=>?_|refine A.t rfl fun bl=>?_|refine A.step rfl ?_|refine A.v rfl rfl ?_)
    refine A.valE 5 rfl (x' := U64 (rch ||| orB (newB s w n) 64)) (u64_eq (uor _ _)) ?_
    refine A.valE 7 rfl (x' := AI ((k + 1 : Nat) : Int)) (inc_eq k (by omega)) ?_
    refine A.sub (by repeat (first | exact trivial | refine ⟨⟨_, rfl, .refl⟩, ?_⟩)) (ih (cutU (newB s w n) (k : Nat) n 64, rch ||| orB (newB s w n) 64, orB (newB s w n) 64, k + 1, f') ⟨h1, fun h => ?_, by simp only; omega, by simp⟩ (by simp only; omega))
    have := zeros_lt (k := (k : Int)) (by omega) h
    simp only
    omega
end Go.Proofs.Ytpilobbmijpnoaa
