/-
  Chapter 23: the plain law of ways along preceding channels, and of the waiting cycle.
-/
import Derived.Test.YtpilobbmijpnoaaQ23p
namespace Go.Proofs.Ytpilobbmijpnoaa
open Go Go.Tp
set_option linter.unusedVariables false
set_option linter.unusedSimpArgs false

inductive Way (s : Nat → W64) (to : Nat) : Nat → Nat → Prop
  | one {x : Nat} : (s x).getLsbD to = true → Way s to x 1
  | more {x y k : Nat} : (s x).getLsbD y = true → Way s to y k → Way s to x (k + 1)
theorem Way.pos {s : Nat → W64} {to x k : Nat} (h : Way s to x k) : 1 ≤ k := by cases h <;> omega
structure Least (s : Nat → W64) (to x k : Nat) : Prop where
  way : Way s to x k
  le : ∀ m, Way s to x m → k ≤ m
def Fr (s : Nat → W64) (to k y : Nat) : Prop := (k = 1 ∧ y = to) ∨ (2 ≤ k ∧ Least s to y (k - 1))
structure FI (s : Nat → W64) (to : Nat) (n : Nat → Int) (w : W64) (k : Nat) : Prop where
  zero : ∀ x, x < 64 → n x = 0 → ∀ m, Way s to x m → k ≤ m
  some : ∀ x, x < 64 → n x ≠ 0 → ∃ m : Nat, n x = m ∧ Least s to x m ∧ m < k
  fr : ∀ y, y < 64 → (w.getLsbD y = true ↔ Fr s to k y)
  k1 : 1 ≤ k
theorem and_ne {a b : W64} : a &&& b ≠ 0 ↔ ∃ y, a.getLsbD y = true ∧ b.getLsbD y = true := by
  rw [Ne, bv_zero]
  constructor
  · intro h
    apply Classical.byContradiction
    intro hn
    apply h
    intro x hx
    rw [BitVec.getLsbD_and]
    cases h1 : a.getLsbD x
    · rfl
    · cases h2 : b.getLsbD x
      · rfl
      · exact (hn ⟨x, h1, h2⟩).elim
  · rintro ⟨y, h1, h2⟩ h
    have := h y (BitVec.lt_of_getLsbD h1)
    rw [BitVec.getLsbD_and, h1, h2] at this
    cases this
theorem newB_iff {s : Nat → W64} {w : W64} {n : Nat → Int} {x : Nat} : newB s w n x = true ↔ n x = 0 ∧ ∃ y, (s x).getLsbD y = true ∧ w.getLsbD y = true := by
  unfold newB
  rw [Bool.and_eq_true, beq_iff_eq, bne_iff_ne, and_ne]
theorem FI.start {s : Nat → W64} {to : Nat} (ht : to < 64) : FI s to (fun _ => 0) (bitW to) 1 where
  zero := fun x hx _ m hm => hm.pos
  some := fun x hx h => (h rfl).elim
  fr := fun y hy => by
    rw [bitW_get _ _ ht, decide_eq_true_iff]
    constructor
    · intro h; exact .inl ⟨rfl, h⟩
    · rintro (h | h)
      · exact h.2
      · omega
  k1 := Nat.le_refl _
theorem FI.new {s : Nat → W64} {to : Nat} {n : Nat → Int} {w : W64} {k : Nat} (I : FI s to n w k) {x : Nat} (hx : x < 64) (h : newB s w n x = true) : n x = 0 ∧ Least s to x k := by
  obtain ⟨h0, y, h1, h2⟩ := newB_iff.1 h
  have hy := BitVec.lt_of_getLsbD h1
  refine ⟨h0, ?_, I.zero x hx h0⟩
  rcases (I.fr y hy).1 h2 with ⟨rfl, rfl⟩ | ⟨hk, hl⟩
  · exact .one h1
  · have := Way.more h1 hl.way
    rw [show k - 1 + 1 = k by omega] at this
    exact this
theorem FI.not {s : Nat → W64} {to : Nat} {n : Nat → Int} {w : W64} {k : Nat} (ht : to < 64) (I : FI s to n w k) {x : Nat} (hx : x < 64) (h0 : n x = 0) (h : newB s w n x = false) {m : Nat} (hm : Way s to x m) : k + 1 ≤ m := by
  have hk := I.zero x hx h0 m hm
  apply Classical.byContradiction
  intro hn
  have hmk : m = k := by omega
  subst hmk
  have hnew : newB s w n x = true := by
    rw [newB_iff]
    refine ⟨h0, ?_⟩
    cases hm with
    | one h1 => exact ⟨to, h1, (I.fr to ht).2 (.inl ⟨rfl, rfl⟩)⟩
    | @more _ y k' h1 h2 =>
      have hy := BitVec.lt_of_getLsbD h1
      refine ⟨y, h1, (I.fr y hy).2 (.inr ⟨by have := h2.pos; omega, ?_⟩)⟩
      by_cases hny : n y = 0
      · have := I.zero y hy hny _ h2; omega
      · obtain ⟨m', e, l, hlt⟩ := I.some y hy hny
        have h3 := l.le _ h2
        have h4 := I.zero x hx h0 _ (Way.more h1 l.way)
        have : m' = k' := by omega
        subst this
        exact l
  rw [h] at hnew
  cases hnew
theorem FI.round {s : Nat → W64} {to : Nat} {n : Nat → Int} {w : W64} {k : Nat} (ht : to < 64) (I : FI s to n w k) : FI s to (cutU (newB s w n) (k : Nat) n 64) (orB (newB s w n) 64) (k + 1) := by
  have hk1 := I.k1
  have hcut : ∀ x, x < 64 → cutU (newB s w n) (k : Nat) n 64 x = if newB s w n x = true then (k : Int) else n x := fun x hx => by
    simp only [cutU, hx, decide_true, Bool.true_and]
  refine ⟨fun x hx h0 m hm => ?_, fun x hx hne => ?_, fun y hy => ?_, by omega⟩
  · rw [hcut x hx] at h0
    split at h0
    · omega
    · rename_i hb
      exact I.not ht hx h0 (by simpa using hb) hm
  · rw [hcut x hx] at hne ⊢
    split
    · rename_i hb
      exact ⟨k, rfl, (I.new hx hb).2, by omega⟩
    · rename_i hb
      rw [if_neg hb] at hne
      obtain ⟨m, e, l, hlt⟩ := I.some x hx hne
      exact ⟨m, e, l, by omega⟩
  · rw [orB_get _ 64 (Nat.le_refl _)]
    simp only [hy, decide_true, Bool.true_and]
    constructor
    · intro hb
      exact .inr ⟨by omega, by rw [Nat.add_sub_cancel]; exact (I.new hy hb).2⟩
    · rintro (⟨h, _⟩ | ⟨_, l⟩)
      · omega
      · rw [Nat.add_sub_cancel] at l
        cases hb : newB s w n y with
        | true => rfl
        | false =>
          by_cases hny : n y = 0
          · have := I.not ht hy hny hb l.way; omega
          · obtain ⟨m, e, l', hlt⟩ := I.some y hy hny
            have := l'.le _ l.way
            have := l.le _ l'.way
            omega
theorem FI.fin {s : Nat → W64} {to : Nat} {n : Nat → Int} {k : Nat} (ht : to < 64) (I : FI s to n 0 k) : ∀ m x, x < 64 → Way s to x m → n x ≠ 0 := by
  intro m
  induction m with
  | zero => intro x hx hw; have := hw.pos; omega
  | succ m ih =>
    intro x hx hw h0
    have hk := I.zero x hx h0 _ hw
    have hb : newB s 0 n x = false := by simp [newB]
    have hk2 := I.not ht hx h0 hb hw
    have hk1 := I.k1
    cases hw with
    | one h1 => omega
    | @more _ y _ h1 h2 =>
      have hy := BitVec.lt_of_getLsbD h1
      obtain ⟨m', e, l, hlt⟩ := I.some y hy (ih y hy h2)
      have h4 := I.not ht hx h0 hb (Way.more h1 l.way)
      omega
/-- the number of steps on a way, or none -/
def DistV (s : Nat → W64) (to x : Nat) (v : Int) : Prop := (v = 0 ∧ ∀ m, ¬ Way s to x m) ∨ ∃ m : Nat, v = m ∧ Least s to x m ∧ m ≤ 66
theorem farR_spec {s : Nat → W64} {to : Nat} (ht : to < 64) : ∀ (f : Nat) (n : Nat → Int) (w : W64) (k : Nat), FI s to n w k → (w ≠ 0 → zeros n + 1 ≤ f) → f + k = 67 → ∀ x, x < 64 → DistV s to x (farR s f n w (k : Nat) x)
  | f, n, w, k, I, hz, hf, x, hx => by
    by_cases hw : w = 0
    · subst hw
      rw [farR_zero]
      by_cases h0 : n x = 0
      · exact .inl ⟨h0, fun m hm => I.fin ht m x hx hm h0⟩
      · obtain ⟨m, e, l, hlt⟩ := I.some x hx h0
        exact .inr ⟨m, e, l, by omega⟩
    · match f, hz hw with
      | f + 1, hz1 =>
        rw [farR, if_neg hw]
        have hk1 := I.k1
        have := farR_spec ht f _ _ (k + 1) (I.round ht) (fun h => by have := zeros_lt (k := (k : Int)) (by omega) h; omega) (by omega) x hx
        exact this
theorem far_spec {s : Nat → W64} {to : Nat} (ht : to < 64) {x : Nat} (hx : x < 64) : DistV s to x (farF s to x) := by
  have := farR_spec (s := s) ht 66 (fun _ => 0) (bitW to) 1 (FI.start ht) (fun _ => by have := zeros_le fun _ => 0; omega) rfl x hx
  exact this
theorem far_some {s : Nat → W64} {to : Nat} (ht : to < 64) {x : Nat} (hx : x < 64) {m : Nat} (l : Least s to x m) : farF s to x = m := by
  rcases far_spec ht hx with ⟨_, h⟩ | ⟨m', e, l', _⟩
  · exact (h m l.way).elim
  · rw [e]; have := l.le _ l'.way; have := l'.le _ l.way; omega
theorem Least.pos {s : Nat → W64} {to x k : Nat} (h : Least s to x k) : 1 ≤ k := h.way.pos
/-- the next channel on a shortest way -/
theorem far_next {s : Nat → W64} {to : Nat} (ht : to < 64) {x : Nat} (hx : x < 64) (h : 2 ≤ farF s to x) : ∃ y, (s x).getLsbD y = true ∧ farF s to y = farF s to x - 1 := by
  rcases far_spec (s := s) ht hx with ⟨h0, _⟩ | ⟨m, e, l, _⟩
  · omega
  · rw [e] at h ⊢
    have hw := l.way
    have hle := l.le
    clear e l
    cases hw with
    | one h1 => omega
    | @more _ y k h1 h2 =>
      refine ⟨y, h1, ?_⟩
      rw [far_some ht (BitVec.lt_of_getLsbD h1) (m := k) ⟨h2, fun m' hm => by have := hle _ (Way.more h1 hm); omega⟩]
      omega
/-! ### the waiting cycle -/
def bestS (s : Nat → W64) (st : Int × Int) (x : Nat) : Int × Int := if 0 < farF s x x ∧ (st.2 = 0 ∨ farF s x x < st.2) then ((x : Int), farF s x x) else st
def bestF (s : Nat → W64) (m : Nat) : Int × Int := (List.range m).foldl (bestS s) (-1, 0)
theorem bestF_succ (s : Nat → W64) (m : Nat) : bestF s (m + 1) = bestS s (bestF s m) m := by
  rw [bestF, List.range_succ, List.foldl_append]; rfl
structure Best (s : Nat → W64) (n f : Nat) (b : Int) : Prop where
  lt : f < n
  eq : farF s f f = b
  pos : 0 < b
  le : ∀ x, x < n → 0 < farF s x x → b ≤ farF s x x ∧ (farF s x x = b → f ≤ x)
theorem Best.uniq {s : Nat → W64} {n f f' : Nat} {b b' : Int} (h : Best s n f b) (h' : Best s n f' b') : f = f' ∧ b = b' := by
  have h1 := h.le f' h'.lt (by rw [h'.eq]; exact h'.pos)
  have h2 := h'.le f h.lt (by rw [h.eq]; exact h.pos)
  rw [h'.eq] at h1
  rw [h.eq] at h2
  have hb : b = b' := by omega
  have := h1.2 hb.symm
  have := h2.2 hb
  exact ⟨by omega, hb⟩
theorem bestF_spec (s : Nat → W64) (m : Nat) : (bestF s m = (-1, 0) ∧ ∀ x, x < m → ¬ 0 < farF s x x) ∨ ∃ f : Nat, (bestF s m).1 = f ∧ Best s m f (bestF s m).2 := by
  induction m with
  | zero => exact .inl ⟨rfl, fun x hx => by omega⟩
  | succ m ih =>
    rw [bestF_succ, bestS]
    rcases ih with ⟨h1, h2⟩ | ⟨f, h1, h2⟩
    · rw [h1]
      by_cases hp : 0 < farF s m m
      · rw [if_pos ⟨hp, .inl rfl⟩]
        refine .inr ⟨m, rfl, by omega, rfl, hp, fun x hx hx0 => ?_⟩
        by_cases hxm : x = m
        · subst hxm; exact ⟨Int.le_refl _, fun _ => Nat.le_refl _⟩
        · exact (h2 x (by omega) hx0).elim
      · rw [if_neg (fun h => hp h.1)]
        refine .inl ⟨rfl, fun x hx hx0 => ?_⟩
        by_cases hxm : x = m
        · subst hxm; exact hp hx0
        · exact h2 x (by omega) hx0
    · right
      by_cases hp : 0 < farF s m m ∧ ((bestF s m).2 = 0 ∨ farF s m m < (bestF s m).2)
      · rw [if_pos hp]
        have hb := h2.pos
        refine ⟨m, rfl, by omega, rfl, hp.1, fun x hx hx0 => ?_⟩
        by_cases hxm : x = m
        · subst hxm; exact ⟨Int.le_refl _, fun _ => Nat.le_refl _⟩
        · have := h2.le x (by omega) hx0
          refine ⟨by simp only; omega, fun h => ?_⟩
          simp only at h
          omega
      · rw [if_neg hp]
        refine ⟨f, h1, by have := h2.lt; omega, h2.eq, h2.pos, fun x hx hx0 => ?_⟩
        by_cases hxm : x = m
        · subst hxm
          have h3 : ¬ farF s x x < (bestF s x).2 := fun h => hp ⟨hx0, .inr h⟩
          exact ⟨by omega, fun _ => Nat.le_of_lt h2.lt⟩
        · exact h2.le x (by omega) hx0
def nxtB (s : Nat → W64) (g : Nat → Int) (at1 : Nat) (v : Int) (d : Nat) : Bool := (s at1).getLsbD d && g d == v
def cycR (s : Nat → W64) (n : Nat) (g : Nat → Int) (best : Int) : Nat → Nat → Int → List Nat
  | 0, _, _ => []
  | f + 1, at1, len => if len < best then match (List.range n).find? (nxtB s g at1 (best - len)) with
      | some d => d :: cycR s n g best f d (len + 1)
      | none => []
    else []
def cycV (s : Nat → W64) (n : Nat) : Option (List Nat) := if (bestF s n).1 < 0 then none else
  some ((bestF s n).1.toNat :: cycR s n (farF s (bestF s n).1.toNat) (bestF s n).2 66 (bestF s n).1.toNat 1)
end Go.Proofs.Ytpilobbmijpnoaa
