/-
  Chapter 23: the plain law of valid networks; what precedes.
-/
import Derived.Test.YtpilobbmijpnoaaQ23e
import Derived.Test.YtpilobbmijpnoaaQ23q
namespace Go.Proofs.Ytpilobbmijpnoaa
open Go Go.Tp
set_option linter.unusedVariables false
set_option linter.unusedSimpArgs false

def useN (c : Procs) (x : Int) : Nat := (c.map fun p => p.flatten.count x).sum
structure FineP (n : Int) (p : List (List Int)) : Prop where
  ne : p ≠ []
  nes : ∀ s, s ∈ p → s ≠ []
  rng : ∀ x, x ∈ p.flatten → 0 ≤ x ∧ x < n
  nd : ∀ x, x ∈ p.flatten → p.flatten.count x ≤ 1
structure Valid (n : Int) (c : Procs) : Prop where
  g : mayG n c = true
  fine : ∀ p, p ∈ c → FineP n p
  two : ∀ i : Nat, i < 64 → useN c i = 0 ∨ useN c i = 2
/-! ### channels of a process -/
theorem chk_fold {n : Int} (hn : n ≤ 64) : ∀ (l : List Int) (met : W64) (u : Nat → Int) (k : Nat → Nat), (∀ i, i < 64 → u i = k i ∧ k i + l.length ≤ 1000) →
    match l.foldlM (chk n) (met, u) with
    | some st => (∀ x, x ∈ l → 0 ≤ x ∧ x < n ∧ met.getLsbD x.toNat = false ∧ l.count x ≤ 1) ∧ (∀ i, i < 64 → st.2 i = (k i + l.count (i : Int) : Nat))
    | none => ¬ ∀ x, x ∈ l → 0 ≤ x ∧ x < n ∧ met.getLsbD x.toNat = false ∧ l.count x ≤ 1
  | [], met, u, k, hk => ⟨fun x h => (by cases h), fun i hi => by show u i = _; rw [(hk i hi).1]; simp⟩
  | x :: l, met, u, k, hk => by
    rw [List.foldlM_cons]
    by_cases hx : x < 0 ∨ n ≤ x ∨ met.getLsbD x.toNat = true
    · rw [chk, if_pos hx]
      show ¬ _
      intro h
      obtain ⟨h1, h2, h3, _⟩ := h x (List.mem_cons_self ..)
      rcases hx with h | h | h
      · omega
      · omega
      · rw [h3] at h; cases h
    · rw [chk, if_neg hx]
      have hx0 : 0 ≤ x := by omega
      have hxn : x < n := by omega
      have hxm : met.getLsbD x.toNat = false := by
        cases h : met.getLsbD x.toNat
        · rfl
        · exact (hx (.inr (.inr h))).elim
      have ht : x.toNat < 64 := by omega
      have ih := chk_fold hn l (met ||| bitW x.toNat) (upd u x.toNat (w64 (u x.toNat + 1))) (fun i => if i = x.toNat then k i + 1 else k i) (fun i hi => by
        obtain ⟨h1, h2⟩ := hk i hi
        rw [List.length_cons] at h2
        unfold upd
        by_cases he : i = x.toNat
        · rw [if_pos he, if_pos he, ← he, h1]
          refine ⟨?_, by omega⟩
          have h3 : i64 ((k i : Int) + 1) := by unfold i64; omega
          exact (w64_id h3).trans (by push_cast; rfl)
        · rw [if_neg he, if_neg he]; exact ⟨h1, by omega⟩)
      show match (List.foldlM (chk n) (met ||| bitW x.toNat, upd u x.toNat (w64 (u x.toNat + 1))) l) with
        | some st => _
        | none => _
      revert ih
      have hm2 : ∀ y : Int, 0 ≤ y → (met ||| bitW x.toNat).getLsbD y.toNat = (met.getLsbD y.toNat || decide (y = x)) := fun y hy => by
        rw [BitVec.getLsbD_or, bitW_get _ _ ht]
        congr 1
        rw [Bool.eq_iff_iff]; simp; omega
      cases List.foldlM (chk n) (met ||| bitW x.toNat, upd u x.toNat (w64 (u x.toNat + 1))) l with
      | some st =>
        simp only
        rintro ⟨h1, h2⟩
        have hxl : x ∉ l := fun hm => by
          have := (h1 x hm).2.2.1
          rw [hm2 x hx0] at this
          simp at this
        refine ⟨fun y hy => ?_, fun i hi => ?_⟩
        · rcases List.mem_cons.1 hy with rfl | hy
          · refine ⟨hx0, hxn, hxm, ?_⟩
            rw [List.count_cons_self, List.count_eq_zero.2 hxl]; exact Nat.le_refl _
          · obtain ⟨q1, q2, q3, q4⟩ := h1 y hy
            rw [hm2 y q1] at q3
            simp only [Bool.or_eq_false_iff, decide_eq_false_iff_not] at q3
            refine ⟨q1, q2, q3.1, ?_⟩
            rw [List.count_cons_of_ne (fun e => q3.2 e.symm)]; exact q4
        · rw [h2 i hi]
          by_cases he : i = x.toNat
          · have : x = (i : Int) := by omega
            rw [if_pos he, this, List.count_cons_self]; omega
          · rw [if_neg he, List.count_cons_of_ne (by omega)]
      | none =>
        simp only
        intro h1 h
        apply h1
        intro y hy
        obtain ⟨q1, q2, q3, q4⟩ := h y (List.mem_cons_of_mem _ hy)
        have hxy : y ≠ x := by
          rintro rfl
          rw [List.count_cons_self] at q4
          have := List.count_pos_iff.2 hy
          omega
        refine ⟨q1, q2, ?_, ?_⟩
        · rw [hm2 y q1, q3]; simp [hxy]
        · rw [List.count_cons_of_ne (fun e => hxy e.symm)] at q4; exact q4
theorem step_fold (n : Int) : ∀ (p : List (List Int)) (st : W64 × (Nat → Int)), (∀ s, s ∈ p → s ≠ []) → p.foldlM (stepM n) st = p.flatten.foldlM (chk n) st
  | [], st, _ => rfl
  | s :: p, st, h => by
    rw [List.foldlM_cons, List.flatten_cons, List.foldlM_append, stepM, if_neg (h s (List.mem_cons_self ..))]
    show Option.bind _ _ = Option.bind _ _
    congr 1
    funext st'
    exact step_fold n p st' fun s' hs => h s' (List.mem_cons_of_mem _ hs)
theorem step_none (n : Int) : ∀ (p : List (List Int)) (st : W64 × (Nat → Int)), [] ∈ p → p.foldlM (stepM n) st = none
  | s :: p, st, h => by
    rw [List.foldlM_cons]
    by_cases hs : s = []
    · rw [stepM, if_pos hs]; rfl
    · show Option.bind _ _ = none
      rcases List.mem_cons.1 h with h | h
      · exact (hs h.symm).elim
      · cases stepM n st s with
        | none => rfl
        | some st' => exact step_none n p st' h
theorem proc_fold {n : Int} (hn : n ≤ 64) (p : List (List Int)) (u : Nat → Int) (k : Nat → Nat) (hk : ∀ i, i < 64 → u i = k i ∧ k i + p.flatten.length ≤ 1000) :
    match procM n u p with
    | some u' => FineP n p ∧ ∀ i, i < 64 → u' i = (k i + p.flatten.count (i : Int) : Nat)
    | none => ¬ FineP n p := by
  unfold procM
  by_cases hp : p = []
  · rw [if_pos hp]; exact fun h => h.ne hp
  rw [if_neg hp]
  by_cases hs : [] ∈ p
  · rw [step_none n p _ hs]; exact fun h => h.nes _ hs rfl
  have hs' : ∀ s, s ∈ p → s ≠ [] := fun s hm e => hs (e ▸ hm)
  rw [step_fold n p _ hs']
  have := chk_fold hn p.flatten 0 u k hk
  revert this
  cases p.flatten.foldlM (chk n) (0, u) with
  | some st =>
    simp only [Option.map_some]
    rintro ⟨h1, h2⟩
    exact ⟨⟨hp, hs', fun x hx => ⟨(h1 x hx).1, (h1 x hx).2.1⟩, fun x hx => (h1 x hx).2.2.2⟩, h2⟩
  | none =>
    simp only [Option.map_none]
    intro h1 h
    apply h1
    exact fun x hx => ⟨(h.rng x hx).1, (h.rng x hx).2, by simp, h.nd x hx⟩
def flatL (c : Procs) : Nat := (c.map fun p => p.flatten.length).sum
theorem net_fold {n : Int} (hn : n ≤ 64) : ∀ (c : Procs) (u : Nat → Int) (k : Nat → Nat), (∀ i, i < 64 → u i = k i ∧ k i + flatL c ≤ 1000) →
    match c.foldlM (procM n) u with
    | some u' => (∀ p, p ∈ c → FineP n p) ∧ ∀ i, i < 64 → u' i = (k i + useN c (i : Int) : Nat)
    | none => ¬ ∀ p, p ∈ c → FineP n p
  | [], u, k, hk => ⟨fun p h => (by cases h), fun i hi => by rw [(hk i hi).1]; simp [useN]⟩
  | p :: c, u, k, hk => by
    have hfl : flatL (p :: c) = p.flatten.length + flatL c := by simp [flatL]
    rw [List.foldlM_cons]
    have h1 := proc_fold hn p u k fun i hi => ⟨(hk i hi).1, by have := (hk i hi).2; rw [hfl] at this; omega⟩
    revert h1
    cases procM n u p with
    | none =>
      intro h1 h
      exact h1 (h p (List.mem_cons_self ..))
    | some u1 =>
      simp only
      rintro ⟨h1, h2⟩
      show match (c.foldlM (procM n) u1) with
        | some u' => _
        | none => _
      have ih := net_fold hn c u1 (fun i => k i + p.flatten.count (i : Int)) fun i hi => ⟨h2 i hi, by
        have := (hk i hi).2
        rw [hfl] at this
        have := List.count_le_length (a := (i : Int)) (l := p.flatten)
        omega⟩
      revert ih
      cases c.foldlM (procM n) u1 with
      | none =>
        intro h3 h
        exact h3 fun q hq => h q (List.mem_cons_of_mem _ hq)
      | some u' =>
        simp only
        rintro ⟨h3, h4⟩
        refine ⟨fun q hq => ?_, fun i hi => ?_⟩
        · rcases List.mem_cons.1 hq with rfl | hq
          · exact h1
          · exact h3 q hq
        · rw [h4 i hi]; simp only [useN, List.map_cons, List.sum_cons]; push_cast; omega
theorem sizeP_flat (p : List (List Int)) : p.flatten.length ≤ sizeP p := by
  induction p with
  | nil => simp [sizeP]
  | cons s p ih => rw [sizeP_cons, List.flatten_cons, List.length_append]; omega
theorem flatL_le (c : Procs) : flatL c ≤ sizeN c := by
  induction c with
  | nil => simp [flatL, sizeN]
  | cons p c ih =>
    rw [sizeN_cons]
    have := sizeP_flat p
    have : flatL (p :: c) = p.flatten.length + flatL c := by simp [flatL]
    omega
theorem mayB_iff {n : Int} {c : Procs} (hs : sizeN c ≤ 1000) : mayB n c = true ↔ Valid n c := by
  unfold mayB
  rw [Bool.and_eq_true]
  by_cases hg : mayG n c = true
  case neg => exact ⟨fun h => (hg h.1).elim, fun h => (hg h.g).elim⟩
  have hn : n ≤ 64 := by
    simp only [mayG, Bool.and_eq_true, decide_eq_true_eq] at hg; omega
  have := net_fold hn c (fun _ => 0) (fun _ => 0) fun i _ => ⟨rfl, by have := flatL_le c; omega⟩
  unfold mayU
  revert this
  cases c.foldlM (procM n) fun _ => 0 with
  | none =>
    intro h
    constructor
    · intro h1; exact absurd h1.2 (by simp [evenU])
    · intro h1; exact (h h1.fine).elim
  | some u =>
    simp only
    rintro ⟨h1, h2⟩
    have hev : evenU (some u) = true ↔ ∀ i : Nat, i < 64 → useN c (i : Int) = 0 ∨ useN c (i : Int) = 2 := by
      simp only [evenU, Bool.not_eq_true', List.any_eq_false, List.mem_map, List.mem_range]
      constructor
      · intro h i hi
        have := h (u i) ⟨i, hi, rfl⟩
        rw [h2 i hi] at this
        simp [oddUse] at this
        omega
      · rintro h x ⟨i, hi, rfl⟩
        rw [h2 i hi]
        have := h i hi
        simp [oddUse]
        omega
    exact ⟨fun h => ⟨hg, h1, hev.1 h.2⟩, fun h => ⟨hg, hev.2 h.two⟩⟩
theorem sum_reverse (l : List Nat) : l.reverse.sum = l.sum := by
  induction l with
  | nil => rfl
  | cons x l ih => rw [List.reverse_cons, List.sum_append, ih]; simp; omega
theorem useN_rev (c : Procs) (x : Int) : useN c.reverse x = useN c x := by rw [useN, List.map_reverse, sum_reverse]; rfl
theorem sizeN_rev (c : Procs) : sizeN c.reverse = sizeN c := by rw [sizeN, List.map_reverse, sum_reverse]; rfl
theorem mayB_rev (n : Int) (c : Procs) (hs : sizeN c ≤ 1000) : mayB n c.reverse = mayB n c := by
  have hg : mayG n c.reverse = mayG n c := by simp only [mayG, List.length_reverse]
  rw [Bool.eq_iff_iff, mayB_iff (by rw [sizeN_rev]; exact hs), mayB_iff hs]
  constructor
  · intro h; exact ⟨by rw [← hg]; exact h.g, fun p hp => h.fine p (List.mem_reverse.2 hp), fun i hi => by have := h.two i hi; rw [useN_rev] at this; exact this⟩
  · intro h; exact ⟨by rw [hg]; exact h.g, fun p hp => h.fine p (List.mem_reverse.1 hp), fun i hi => by rw [useN_rev]; exact h.two i hi⟩
theorem Valid.inB {n : Int} {c : Procs} (h : Valid n c) : InB c := fun p hp s hs x hx => by
  have h1 := (h.fine p hp).rng x (List.mem_flatten.2 ⟨s, hs, hx⟩)
  have h2 := h.g
  simp only [mayG, Bool.and_eq_true, decide_eq_true_eq] at h2
  omega
/-! ### what precedes -/
def preB (c : Procs) (d x : Int) : Bool := c.any fun p => (p.zip p.tail).any fun ab => ab.1.contains d && ab.2.contains x
theorem addX_bits (x d : Nat) (hd : d < 64) : ∀ (a : List Int), (∀ y, y ∈ a → 0 ≤ y ∧ y < 64) → ∀ (g : Nat → W64) (y : Nat), ((a.foldl (addD x) g) y).getLsbD d = ((g y).getLsbD d || (decide (y = x) && a.contains (d : Int)))
  | [], _, g, y => by simp
  | z :: a, h, g, y => by
    obtain ⟨z0, z1⟩ := h z (List.mem_cons_self ..)
    rw [List.foldl_cons, addX_bits x d hd a (fun w hw => h w (List.mem_cons_of_mem _ hw)), addD, upd]
    by_cases hy : y = x
    · subst hy
      have hz : decide (d = z.toNat) = (z == (d : Int)) := by rw [Bool.eq_iff_iff]; simp; omega
      have hz2 : ((d : Int) == z) = (z == (d : Int)) := by rw [Bool.eq_iff_iff]; simp; omega
      rw [if_pos rfl, BitVec.getLsbD_or, bitW_get _ _ (by omega), hz, List.contains_cons, hz2]
      cases (g y).getLsbD d <;> cases (z == (d : Int)) <;> simp
    · rw [if_neg hy]; simp [hy]
theorem addS_bits (a : List Int) (ha : ∀ y, y ∈ a → 0 ≤ y ∧ y < 64) (d : Nat) (hd : d < 64) : ∀ (b : List Int), (∀ y, y ∈ b → 0 ≤ y ∧ y < 64) → ∀ (g : Nat → W64) (y : Nat), ((b.foldl (addX a) g) y).getLsbD d = ((g y).getLsbD d || (a.contains (d : Int) && b.contains (y : Int)))
  | [], _, g, y => by simp
  | z :: b, h, g, y => by
    obtain ⟨z0, z1⟩ := h z (List.mem_cons_self ..)
    rw [List.foldl_cons, addS_bits a ha d hd b (fun w hw => h w (List.mem_cons_of_mem _ hw)), addX, addX_bits _ _ hd a ha]
    have hz : decide (y = z.toNat) = ((y : Int) == z) := by rw [Bool.eq_iff_iff]; simp; omega
    rw [hz, List.contains_cons]
    cases (g y).getLsbD d <;> cases ((y : Int) == z) <;> cases a.contains (d : Int) <;> simp
theorem addP_bits (d : Nat) (hd : d < 64) : ∀ (l : List (List Int × List Int)), (∀ ab, ab ∈ l → (∀ y, y ∈ ab.1 → 0 ≤ y ∧ y < 64) ∧ (∀ y, y ∈ ab.2 → 0 ≤ y ∧ y < 64)) → ∀ (g : Nat → W64) (y : Nat),
    ((l.foldl addS g) y).getLsbD d = ((g y).getLsbD d || l.any fun ab => ab.1.contains (d : Int) && ab.2.contains (y : Int))
  | [], _, g, y => by simp
  | ab :: l, h, g, y => by
    obtain ⟨h1, h2⟩ := h ab (List.mem_cons_self ..)
    rw [List.foldl_cons, addP_bits d hd l (fun w hw => h w (List.mem_cons_of_mem _ hw)), addS, addS_bits _ h1 d hd _ h2, List.any_cons, Bool.or_assoc]
theorem net_bits (d : Nat) (hd : d < 64) : ∀ (c : Procs), InB c → ∀ (g : Nat → W64) (y : Nat), ((c.foldl addP g) y).getLsbD d = ((g y).getLsbD d || preB c d y)
  | [], _, g, y => by simp [preB]
  | p :: c, h, g, y => by
    rw [List.foldl_cons, net_bits d hd c (fun q hq => h q (List.mem_cons_of_mem _ hq)), addP, addP_bits d hd _ fun ab hab => ?_, preB, preB, List.any_cons, Bool.or_assoc]
    have hp := h p (List.mem_cons_self ..)
    exact ⟨hp _ (List.of_mem_zip hab).1, hp _ (List.mem_of_mem_tail (List.of_mem_zip hab).2)⟩
theorem before_bits {c : Procs} (h : InB c) (d x : Nat) (hd : d < 64) : (beforeF c x).getLsbD d = preB c d x := by
  rw [beforeF, net_bits d hd c h]; simp
theorem before_rev {c : Procs} (h : InB c) : beforeF c.reverse = beforeF c := by
  funext x
  apply BitVec.eq_of_getLsbD_eq
  intro d hd
  rw [before_bits (fun p hp => h p (List.mem_reverse.1 hp)) d x hd, before_bits h d x hd, preB, preB, List.any_reverse]
theorem preB_lt {n : Int} {c : Procs} (h : Valid n c) {d x : Int} (hp : preB c d x = true) : (0 ≤ d ∧ d < n) ∧ 0 ≤ x ∧ x < n := by
  simp only [preB, List.any_eq_true, Bool.and_eq_true, List.contains_iff_mem] at hp
  obtain ⟨p, hp, ab, hab, h1, h2⟩ := hp
  have hm := List.of_mem_zip hab
  exact ⟨(h.fine p hp).rng d (List.mem_flatten.2 ⟨_, hm.1, h1⟩), (h.fine p hp).rng x (List.mem_flatten.2 ⟨_, List.mem_of_mem_tail hm.2, h2⟩)⟩
theorem before_lt {n : Nat} {c : Procs} (h : Valid n c) (x d : Nat) (hb : (beforeF c x).getLsbD d = true) : d < n := by
  rw [before_bits h.inB d x (BitVec.lt_of_getLsbD hb)] at hb
  have := preB_lt h hb
  omega
end Go.Proofs.Ytpilobbmijpnoaa
