/-
  Texts Q23m Q23j Q23f Q23k R23r Q23g Q23h Q23i R23n R23s S22w Q23o, in one. Conditions: as each theorem says.
-/
import Derived.Test.YtgmeahcclogfmaaDoorM4
import Derived.Test.YtgmeahcclogfmaaDoorCards
import Derived.Test.YtgmeahcclogfmaaDoorTie
import Derived.Test.YtgmeahcclogfmaaDoorM3
import Derived.Test.YtgmeahcclogfmaaDoorLd
/-!
  Chapter 23: the plain law of valid networks; what precedes.
-/
namespace Go.Proofs.YtgmeahcclogfmaaDoor
open Go Go.Tp
set_option linter.unusedVariables false
set_option linter.unusedSimpArgs false
def useN (c : Procs) (x : Int) : Nat := (c.map fun p => p.flatten.count x).sum
structure FineP (n : Int) (p : List (List Int)) : Prop where
  ne : p ≠ []
  nes : ∀ s, s ∈ p → s ≠ []
  rng : ∀ x, x ∈ p.flatten → 0 ≤ x ∧ x < n
  nd : ∀ x, x ∈ p.flatten → p.flatten.count x ≤ 1
structure Valid (n : Int) (c : Procs) : Prop where
  g : mayG n c = true
  fine : ∀ p, p ∈ c → FineP n p
  two : ∀ i : Nat, i < 64 → useN c i = 0 ∨ useN c i = 2
/-! ### channels of a process -/
theorem chk_fold {n : Int} (hn : n ≤ 64) : ∀ (l : List Int) (met : W64) (u : Nat → Int) (k : Nat → Nat), (∀ i, i < 64 → u i = k i ∧ k i + l.length ≤ 1000) →
    match l.foldlM (chk n) (met, u) with
    | some st => (∀ x, x ∈ l → 0 ≤ x ∧ x < n ∧ met.getLsbD x.toNat = false ∧ l.count x ≤ 1) ∧ (∀ i, i < 64 → st.2 i = (k i + l.count (i : Int) : Nat))
    | none => ¬ ∀ x, x ∈ l → 0 ≤ x ∧ x < n ∧ met.getLsbD x.toNat = false ∧ l.count x ≤ 1
  | [], met, u, k, hk => ⟨fun x h => (by cases h), fun i hi => by show u i = _; rw [(hk i hi).1]; simp⟩
  | x :: l, met, u, k, hk => by
    rw [List.foldlM_cons]
    by_cases hx : x < 0 ∨ n ≤ x ∨ met.getLsbD x.toNat = true
    · rw [chk, if_pos hx]
      show ¬ _
      intro h
      obtain ⟨h1, h2, h3, _⟩ := h x (List.mem_cons_self ..)
      rcases hx with h | h | h
      · omega
      · omega
      · rw [h3] at h; cases h
    · rw [chk, if_neg hx]
      have hx0 : 0 ≤ x := by omega
      have hxn : x < n := by omega
      have hxm : met.getLsbD x.toNat = false := by
        cases h : met.getLsbD x.toNat
        · rfl
        · exact (hx (.inr (.inr h))).elim
      have ht : x.toNat < 64 := by omega
      have ih := chk_fold hn l (met ||| bitW x.toNat) (upd u x.toNat (w64 (u x.toNat + 1))) (fun i => if i = x.toNat then k i + 1 else k i) (fun i hi => by
        obtain ⟨h1, h2⟩ := hk i hi
        rw [List.length_cons] at h2
        unfold upd
        by_cases he : i = x.toNat
        · rw [if_pos he, if_pos he, ← he, h1]
          refine ⟨?_, by omega⟩
          have h3 : i64 ((k i : Int) + 1) := by unfold i64; omega
          exact (w64_id h3).trans (by push_cast; rfl)
        · rw [if_neg he, if_neg he]; exact ⟨h1, by omega⟩)
      show match (List.foldlM (chk n) (met ||| bitW x.toNat, upd u x.toNat (w64 (u x.toNat + 1))) l) with
        | some st => _
        | none => _
      revert ih
      have hm2 : ∀ y : Int, 0 ≤ y → (met ||| bitW x.toNat).getLsbD y.toNat = (met.getLsbD y.toNat || decide (y = x)) := fun y hy => by
        rw [BitVec.getLsbD_or, bitW_get _ _ ht]
        congr 1
        rw [Bool.eq_iff_iff]; simp; omega
      cases List.foldlM (chk n) (met ||| bitW x.toNat, upd u x.toNat (w64 (u x.toNat + 1))) l with
      | some st =>
        simp only
        rintro ⟨h1, h2⟩
        have hxl : x ∉ l := fun hm => by
          have := (h1 x hm).2.2.1
          rw [hm2 x hx0] at this
          simp at this
        refine ⟨fun y hy => ?_, fun i hi => ?_⟩
        · rcases List.mem_cons.1 hy with rfl | hy
          · refine ⟨hx0, hxn, hxm, ?_⟩
            rw [List.count_cons_self, List.count_eq_zero.2 hxl]; exact Nat.le_refl _
          · obtain ⟨q1, q2, q3, q4⟩ := h1 y hy
            rw [hm2 y q1] at q3
            simp only [Bool.or_eq_false_iff, decide_eq_false_iff_not] at q3
            refine ⟨q1, q2, q3.1, ?_⟩
            rw [List.count_cons_of_ne (fun e => q3.2 e.symm)]; exact q4
        · rw [h2 i hi]
          by_cases he : i = x.toNat
          · have : x = (i : Int) := by omega
            rw [if_pos he, this, List.count_cons_self]; omega
          · rw [if_neg he, List.count_cons_of_ne (by omega)]
      | none =>
        simp only
        intro h1 h
        apply h1
        intro y hy
        obtain ⟨q1, q2, q3, q4⟩ := h y (List.mem_cons_of_mem _ hy)
        have hxy : y ≠ x := by
          rintro rfl
          rw [List.count_cons_self] at q4
          have := List.count_pos_iff.2 hy
          omega
        refine ⟨q1, q2, ?_, ?_⟩
        · rw [hm2 y q1, q3]; simp [hxy]
        · rw [List.count_cons_of_ne (fun e => hxy e.symm)] at q4; exact q4
theorem step_fold (n : Int) : ∀ (p : List (List Int)) (st : W64 × (Nat → Int)), (∀ s, s ∈ p → s ≠ []) → p.foldlM (stepM n) st = p.flatten.foldlM (chk n) st
  | [], st, _ => rfl
  | s :: p, st, h => by
    rw [List.foldlM_cons, List.flatten_cons, List.foldlM_append, stepM, if_neg (h s (List.mem_cons_self ..))]
    show Option.bind _ _ = Option.bind _ _
    congr 1
    funext st'
    exact step_fold n p st' fun s' hs => h s' (List.mem_cons_of_mem _ hs)
theorem step_none (n : Int) : ∀ (p : List (List Int)) (st : W64 × (Nat → Int)), [] ∈ p → p.foldlM (stepM n) st = none
  | s :: p, st, h => by
    rw [List.foldlM_cons]
    by_cases hs : s = []
    · rw [stepM, if_pos hs]; rfl
    · show Option.bind _ _ = none
      rcases List.mem_cons.1 h with h | h
      · exact (hs h.symm).elim
      · cases stepM n st s with
        | none => rfl
        | some st' => exact step_none n p st' h
theorem proc_fold {n : Int} (hn : n ≤ 64) (p : List (List Int)) (u : Nat → Int) (k : Nat → Nat) (hk : ∀ i, i < 64 → u i = k i ∧ k i + p.flatten.length ≤ 1000) :
    match procM n u p with
    | some u' => FineP n p ∧ ∀ i, i < 64 → u' i = (k i + p.flatten.count (i : Int) : Nat)
    | none => ¬ FineP n p := by
  unfold procM
  by_cases hp : p = []
  · rw [if_pos hp]; exact fun h => h.ne hp
  rw [if_neg hp]
  by_cases hs : [] ∈ p
  · rw [step_none n p _ hs]; exact fun h => h.nes _ hs rfl
  have hs' : ∀ s, s ∈ p → s ≠ [] := fun s hm e => hs (e ▸ hm)
  rw [step_fold n p _ hs']
  have := chk_fold hn p.flatten 0 u k hk
  revert this
  cases p.flatten.foldlM (chk n) (0, u) with
  | some st =>
    simp only [Option.map_some]
    rintro ⟨h1, h2⟩
    exact ⟨⟨hp, hs', fun x hx => ⟨(h1 x hx).1, (h1 x hx).2.1⟩, fun x hx => (h1 x hx).2.2.2⟩, h2⟩
  | none =>
    simp only [Option.map_none]
    intro h1 h
    apply h1
    exact fun x hx => ⟨(h.rng x hx).1, (h.rng x hx).2, by simp, h.nd x hx⟩
def flatL (c : Procs) : Nat := (c.map fun p => p.flatten.length).sum
theorem net_fold {n : Int} (hn : n ≤ 64) : ∀ (c : Procs) (u : Nat → Int) (k : Nat → Nat), (∀ i, i < 64 → u i = k i ∧ k i + flatL c ≤ 1000) →
    match c.foldlM (procM n) u with
    | some u' => (∀ p, p ∈ c → FineP n p) ∧ ∀ i, i < 64 → u' i = (k i + useN c (i : Int) : Nat)
    | none => ¬ ∀ p, p ∈ c → FineP n p
  | [], u, k, hk => ⟨fun p h => (by cases h), fun i hi => by rw [(hk i hi).1]; simp [useN]⟩
  | p :: c, u, k, hk => by
    have hfl : flatL (p :: c) = p.flatten.length + flatL c := by simp [flatL]
    rw [List.foldlM_cons]
    have h1 := proc_fold hn p u k fun i hi => ⟨(hk i hi).1, by have := (hk i hi).2; rw [hfl] at this; omega⟩
    revert h1
    cases procM n u p with
    | none =>
      intro h1 h
      exact h1 (h p (List.mem_cons_self ..))
    | some u1 =>
      simp only
      rintro ⟨h1, h2⟩
      show match (c.foldlM (procM n) u1) with
        | some u' => _
        | none => _
      have ih := net_fold hn c u1 (fun i => k i + p.flatten.count (i : Int)) fun i hi => ⟨h2 i hi, by
        have := (hk i hi).2
        rw [hfl] at this
        have := List.count_le_length (a := (i : Int)) (l := p.flatten)
        omega⟩
      revert ih
      cases c.foldlM (procM n) u1 with
      | none =>
        intro h3 h
        exact h3 fun q hq => h q (List.mem_cons_of_mem _ hq)
      | some u' =>
        simp only
        rintro ⟨h3, h4⟩
        refine ⟨fun q hq => ?_, fun i hi => ?_⟩
        · rcases List.mem_cons.1 hq with rfl | hq
          · exact h1
          · exact h3 q hq
        · rw [h4 i hi]; simp only [useN, List.map_cons, List.sum_cons]; push_cast; omega
theorem sizeP_flat (p : List (List Int)) : p.flatten.length ≤ sizeP p := by
  induction p with
  | nil => simp [sizeP]
  | cons s p ih => rw [sizeP_cons, List.flatten_cons, List.length_append]; omega
theorem flatL_le (c : Procs) : flatL c ≤ sizeN c := by
  induction c with
  | nil => simp [flatL, sizeN]
  | cons p c ih =>
    rw [sizeN_cons]
    have := sizeP_flat p
    have : flatL (p :: c) = p.flatten.length + flatL c := by simp [flatL]
    omega
theorem mayB_iff {n : Int} {c : Procs} (hs : sizeN c ≤ 1000) : nmayB n c = true ↔ Valid n c := by
  unfold nmayB
  rw [Bool.and_eq_true]
  by_cases hg : mayG n c = true
  case neg => exact ⟨fun h => (hg h.1).elim, fun h => (hg h.g).elim⟩
  have hn : n ≤ 64 := by
    simp only [mayG, Bool.and_eq_true, decide_eq_true_eq] at hg; omega
  have := net_fold hn c (fun _ => 0) (fun _ => 0) fun i _ => ⟨rfl, by have := flatL_le c; omega⟩
  unfold mayU
  revert this
  cases c.foldlM (procM n) fun _ => 0 with
  | none =>
    intro h
    constructor
    · intro h1; exact absurd h1.2 (by simp [evenU])
    · intro h1; exact (h h1.fine).elim
  | some u =>
    simp only
    rintro ⟨h1, h2⟩
    have hev : evenU (some u) = true ↔ ∀ i : Nat, i < 64 → useN c (i : Int) = 0 ∨ useN c (i : Int) = 2 := by
      simp only [evenU, Bool.not_eq_true', List.any_eq_false, List.mem_map, List.mem_range]
      constructor
      · intro h i hi
        have := h (u i) ⟨i, hi, rfl⟩
        rw [h2 i hi] at this
        simp [oddUse] at this
        omega
      · rintro h x ⟨i, hi, rfl⟩
        rw [h2 i hi]
        have := h i hi
        simp [oddUse]
        omega
    exact ⟨fun h => ⟨hg, h1, hev.1 h.2⟩, fun h => ⟨hg, hev.2 h.two⟩⟩
theorem Valid.inB {n : Int} {c : Procs} (h : Valid n c) : InB c := fun p hp s hs x hx => by
  have h1 := (h.fine p hp).rng x (List.mem_flatten.2 ⟨s, hs, hx⟩)
  have h2 := h.g
  simp only [mayG, Bool.and_eq_true, decide_eq_true_eq] at h2
  omega
/-! ### what precedes -/
def preB (c : Procs) (d x : Int) : Bool := c.any fun p => (p.zip p.tail).any fun ab => ab.1.contains d && ab.2.contains x
theorem addX_bits (x d : Nat) (hd : d < 64) : ∀ (a : List Int), (∀ y, y ∈ a → 0 ≤ y ∧ y < 64) → ∀ (g : Nat → W64) (y : Nat), ((a.foldl (addD x) g) y).getLsbD d = ((g y).getLsbD d || (decide (y = x) && a.contains (d : Int)))
  | [], _, g, y => by simp
  | z :: a, h, g, y => by
    obtain ⟨z0, z1⟩ := h z (List.mem_cons_self ..)
    rw [List.foldl_cons, addX_bits x d hd a (fun w hw => h w (List.mem_cons_of_mem _ hw)), addD, upd]
    by_cases hy : y = x
    · subst hy
      have hz : decide (d = z.toNat) = (z == (d : Int)) := by rw [Bool.eq_iff_iff]; simp; omega
      have hz2 : ((d : Int) == z) = (z == (d : Int)) := by rw [Bool.eq_iff_iff]; simp; omega
      rw [if_pos rfl, BitVec.getLsbD_or, bitW_get _ _ (by omega), hz, List.contains_cons, hz2]
      cases (g y).getLsbD d <;> cases (z == (d : Int)) <;> simp
    · rw [if_neg hy]; simp [hy]
theorem addS_bits (a : List Int) (ha : ∀ y, y ∈ a → 0 ≤ y ∧ y < 64) (d : Nat) (hd : d < 64) : ∀ (b : List Int), (∀ y, y ∈ b → 0 ≤ y ∧ y < 64) → ∀ (g : Nat → W64) (y : Nat), ((b.foldl (addX a) g) y).getLsbD d = ((g y).getLsbD d || (a.contains (d : Int) && b.contains (y : Int)))
  | [], _, g, y => by simp
  | z :: b, h, g, y => by
    obtain ⟨z0, z1⟩ := h z (List.mem_cons_self ..)
    rw [List.foldl_cons, addS_bits a ha d hd b (fun w hw => h w (List.mem_cons_of_mem _ hw)), addX, addX_bits _ _ hd a ha]
    have hz : decide (y = z.toNat) = ((y : Int) == z) := by rw [Bool.eq_iff_iff]; simp; omega
    rw [hz, List.contains_cons]
    cases (g y).getLsbD d <;> cases ((y : Int) == z) <;> cases a.contains (d : Int) <;> simp
theorem addP_bits (d : Nat) (hd : d < 64) : ∀ (l : List (List Int × List Int)), (∀ ab, ab ∈ l → (∀ y, y ∈ ab.1 → 0 ≤ y ∧ y < 64) ∧ (∀ y, y ∈ ab.2 → 0 ≤ y ∧ y < 64)) → ∀ (g : Nat → W64) (y : Nat),
    ((l.foldl addS g) y).getLsbD d = ((g y).getLsbD d || l.any fun ab => ab.1.contains (d : Int) && ab.2.contains (y : Int))
  | [], _, g, y => by simp
  | ab :: l, h, g, y => by
    obtain ⟨h1, h2⟩ := h ab (List.mem_cons_self ..)
    rw [List.foldl_cons, addP_bits d hd l (fun w hw => h w (List.mem_cons_of_mem _ hw)), addS, addS_bits _ h1 d hd _ h2, List.any_cons, Bool.or_assoc]
theorem net_bits (d : Nat) (hd : d < 64) : ∀ (c : Procs), InB c → ∀ (g : Nat → W64) (y : Nat), ((c.foldl addP g) y).getLsbD d = ((g y).getLsbD d || preB c d y)
  | [], _, g, y => by simp [preB]
  | p :: c, h, g, y => by
    rw [List.foldl_cons, net_bits d hd c (fun q hq => h q (List.mem_cons_of_mem _ hq)), addP, addP_bits d hd _ fun ab hab => ?_, preB, preB, List.any_cons, Bool.or_assoc]
    have hp := h p (List.mem_cons_self ..)
    exact ⟨hp _ (List.of_mem_zip hab).1, hp _ (List.mem_of_mem_tail (List.of_mem_zip hab).2)⟩
theorem before_bits {c : Procs} (h : InB c) (d x : Nat) (hd : d < 64) : (beforeF c x).getLsbD d = preB c d x := by
  rw [beforeF, net_bits d hd c h]; simp
theorem preB_lt {n : Int} {c : Procs} (h : Valid n c) {d x : Int} (hp : preB c d x = true) : (0 ≤ d ∧ d < n) ∧ 0 ≤ x ∧ x < n := by
  simp only [preB, List.any_eq_true, Bool.and_eq_true, List.contains_iff_mem] at hp
  obtain ⟨p, hp, ab, hab, h1, h2⟩ := hp
  have hm := List.of_mem_zip hab
  exact ⟨(h.fine p hp).rng d (List.mem_flatten.2 ⟨_, hm.1, h1⟩), (h.fine p hp).rng x (List.mem_flatten.2 ⟨_, List.mem_of_mem_tail hm.2, h2⟩)⟩
theorem before_lt {n : Nat} {c : Procs} (h : Valid n c) (x d : Nat) (hb : (beforeF c x).getLsbD d = true) : d < n := by
  rw [before_bits h.inB d x (BitVec.lt_of_getLsbD hb)] at hb
  have := preB_lt h hb
  omega
end Go.Proofs.YtgmeahcclogfmaaDoor
/-!
  Chapter 23: In, Precedes and uses of the reference.
-/
namespace Go.Proofs.YtgmeahcclogfmaaDoor
open Go Go.Tp
set_option linter.unusedVariables false
set_option linter.unusedSimpArgs false
set_option maxRecDepth 100000
set_option maxHeartbeats 4000000
abbrev prePair (d x : Int) (ab : List Int × List Int) : Bool := ab.1.contains d && ab.2.contains x
abbrev preProc (d x : Int) (p : List (List Int)) : Bool := (p.zip p.tail).any (prePair d x)
theorem uses_p (p : List (List Int)) (x : Int) (hz : sizeP p ≤ 1000) : Pure Tryd.prog gs0 11 [procA p, AI x] (AI (p.flatten.count x : Nat)) := by
  have hpl : ((p.map rowI).length : Int) = p.length := by rw [List.length_map]
  have hpb : p.length ≤ sizeP p := by
    clear hpl
    induction p with
    | nil => simp [sizeP]
    | cons s p ih => rw [sizeP_cons] at hz ⊢; have := ih (by omega); rw [List.length_cons]; omega
  have htot : p.flatten.count x ≤ 1000 := by have := List.count_le_length (a := x) (l := p.flatten); have := sizeP_flat p; omega
  refine Pure.of (S := tt) (fn := Tryd.f11) (n := 35) tt_ok Tryd.func11 rfl rfl rfl rfl fun w0 h0 F hgs => ?_
  (repeat refine A.s rfl ?_)
  refine A.keep [0, 1, 5, 6] rfl ?_
  refine A.loopP (ι := Nat × Nat) (fun q => (⟨[(0, procA p), (1, AI x), (5, AI (q.2 : Nat)), (6, AI (q.1 : Nat))], []⟩, [])) (fun q => q.1 ≤ p.length ∧ q.2 + (p.drop q.1).flatten.count x = p.flatten.count x) (fun q => p.length - q.1) (0, 0) ⟨by simp, by simp⟩ rfl fun q hi ih => ?_
  obtain ⟨i, acc⟩ := q
  simp only at hi ih ⊢
  (repeat refine A.s rfl ?_)
  refine A.cond rfl (fun hc => ?_) (fun hc => ?_)
  · simp at hc
    refine Exists.elim (at_exN (l := p) (i := i) hc) fun s hs => ?_
    have hsl : ((s.map AI).length : Int) = s.length := by rw [List.length_map]
    have hsb := sizeP_mem (List.mem_of_getElem? hs)
    have h1 := hi.2
    rw [drop_at hs, List.flatten_cons, List.count_append] at h1
    (repeat refine A.s rfl ?_)
    refine A.keep [0, 1, 5, 6, 7] rfl ?_
    refine A.loopP (ι := Nat × Nat) (fun q => (⟨[(0, procA p), (1, AI x), (5, AI (q.2 : Nat)), (6, AI (i : Nat)), (7, AI (q.1 : Nat))], []⟩, [])) (fun q => q.1 ≤ s.length ∧ q.2 + (s.drop q.1).count x = acc + s.count x) (fun q => s.length - q.1) (0, acc) ⟨by simp, by simp⟩ rfl fun q hj jh => ?_
    obtain ⟨j, acc'⟩ := q
    simp only at hj jh ⊢
    (repeat refine A.s rfl ?_)
    refine A.x rfl (by omega) (map_at hs) rfl rfl ?_
    (repeat refine A.s rfl ?_)
    refine A.cond rfl (fun hc => ?_) (fun hc => ?_)
    · simp at hc
      refine Exists.elim (at_exN (l := s) (i := j) hc) fun y hy => ?_
      have h2 := hj.2
      rw [drop_at hy] at h2
      (repeat refine A.s rfl ?_)
      refine A.x rfl (by omega) (map_at hs) rfl rfl ?_
      (repeat refine A.s rfl ?_)
      refine A.x rfl (by omega) (map_at hy) rfl rfl ?_
      (repeat refine A.s rfl ?_)
      refine A.cond rfl (fun hc => ?_) (fun hc => ?_)
      · simp at hc
        subst hc
        rw [List.count_cons_self] at h2
        (repeat refine A.s rfl ?_)
        refine A.valE 5 rfl (x' := AI ((acc' + 1 : Nat) : Int)) (inc_eq acc' (by omega)) ?_
        refine A.valE 7 rfl (x' := AI ((j + 1 : Nat) : Int)) (inc_eq j (by omega)) ?_
        refine A.sub (by repeat (first | exact trivial | refine ⟨⟨_, rfl, .refl⟩, ?_⟩)) (jh (j + 1, acc' + 1) ⟨by simp only; omega, by simp only; omega⟩ (by simp only; omega))
      · simp at hc
        rw [List.count_cons_of_ne hc] at h2
        (repeat refine A.s rfl ?_)
        refine A.valE 7 rfl (x' := AI ((j + 1 : Nat) : Int)) (inc_eq j (by omega)) ?_
        refine A.sub (by repeat (first | exact trivial | refine ⟨⟨_, rfl, .refl⟩, ?_⟩)) (jh (j + 1, acc') ⟨by simp only; omega, by simp only; omega⟩ (by simp only; omega))
    · simp at hc
      have hjl : j = s.length := by omega
      have h2 := hj.2
      rw [hjl, List.drop_length, List.count_nil] at h2
      (repeat refine A.s rfl ?_)
      refine A.valE 6 rfl (x' := AI ((i + 1 : Nat) : Int)) (inc_eq i (by omega)) ?_
      refine A.sub (by repeat (first | exact trivial | refine ⟨⟨_, rfl, .refl⟩, ?_⟩)) (ih (i + 1, acc') ⟨by simp only; omega, by simp only; omega⟩ (by simp only; omega))
  · simp at hc
    have hil : i = p.length := by omega
    have h1 := hi.2
    rw [hil, List.drop_length] at h1
    simp only [List.flatten_nil, List.count_nil, Nat.add_zero] at h1
    (repeat refine A.s rfl ?_); refine A.ret1 (Λ' := []) rfl rfl rfl (List.nil_sublist _) ⟨?_, rfl⟩; rw [← h1]; exact .refl
end Go.Proofs.YtgmeahcclogfmaaDoor
/-!
  Chapter 23: Check of the program.
-/
namespace Go.Proofs.YtgmeahcclogfmaaDoor
open Go Go.Tp
set_option linter.unusedVariables false
set_option linter.unusedSimpArgs false
set_option maxRecDepth 100000
set_option maxHeartbeats 4000000
def rkL (r : List Int) (i : Nat) : Int := r.getD i 0
theorem rkL_at {r : List Int} {i : Nat} {v : Int} (h : r[i]? = some v) : rkL r i = v := by rw [rkL, List.getD_eq_getElem?_getD, h]; rfl
def badB (s : Nat → W64) (r : List Int) (x d : Nat) : Bool := (s x).getLsbD d && decide (rkL r x ≤ rkL r d)
def risesB (s : Nat → W64) (r : List Int) (m : Nat) : Bool := (List.range m).all fun x => (List.range m).all fun d => !badB s r x d
def checkB (n : Int) (c : Procs) (r : List Int) : Bool := nmayB n c && (decide ((r.length : Int) = n) && risesB (beforeF c) r r.length)
theorem range_drop {m i : Nat} (h : i < m) : (List.range m).drop i = i :: (List.range m).drop (i + 1) := drop_at (List.getElem?_range h)
theorem range_end (m : Nat) : (List.range m).drop m = [] := List.drop_eq_nil_of_le (by rw [List.length_range]; exact Nat.le_refl _)
theorem mayG_n {n : Int} {c : Procs} (h : mayG n c = true) : 0 ≤ n ∧ n ≤ 64 := by
  simp only [mayG, Bool.and_eq_true, decide_eq_true_eq] at h; omega
theorem check_p (n : Int) (c : Procs) (r : List Int) (hs : ShortN c) (hz : sizeN c ≤ 1000) (hr : r.length ≤ 281474976710656) : Pure Tryd.prog gs0 15 [netA n c, rowI r] (AB (checkB n c r)) := by
  have hmay := nmay_p n c hs
  have hrl : ((r.map AI).length : Int) = r.length := by rw [List.length_map]
  cases hm : nmayB n c with
  | false =>
    rw [hm] at hmay
    refine Pure.of (S := tt) (fn := Tryd.f15) (n := 50) tt_ok Tryd.func15 rfl rfl rfl rfl fun w0 h0 F hgs => ?_
    (repeat first|refine A.s rfl ?_|refine A.r rfl rfl ?_|refine A.b rfl fun bx=>?_)
    refine A.c rfl hmay .refl ?_
    (repeat refine A.s rfl ?_); refine A.ret1 (Λ' := []) rfl rfl rfl (List.nil_sublist _) ⟨?_, rfl⟩; refine Sb.eq (ab_eq ?_); rw [checkB, hm]; rfl
  | true =>
  rw [hm] at hmay
  have hv := (mayB_iff hz).1 hm
  have hin := hv.inB
  have hn := mayG_n hv.g
  have hbef := before_p n c hs hin
  refine Pure.of (S := tt) (fn := Tryd.f15) (n := 50) tt_ok Tryd.func15 rfl rfl rfl rfl fun w0 h0 F hgs => ?_
  (repeat first|refine A.s rfl ?_|refine A.r rfl rfl ?_|refine A.b rfl fun bx=>?_)
  refine A.c rfl hmay .refl ?_
  (repeat first|refine A.s rfl ?_|refine A.r rfl rfl ?_)
  refine A.valE 17 rfl (x' := AB (!decide ((r.length : Int) = n))) (ab_eq (by rw [hrl, Bool.eq_iff_iff]; simp)) ?_
  refine A.cond rfl (fun hc => ?_) (fun hc => ?_)
  · simp at hc
    (repeat refine A.s rfl ?_); refine A.ret1 (Λ' := []) rfl rfl rfl (List.nil_sublist _) ⟨?_, rfl⟩; refine Sb.eq (ab_eq ?_); rw [checkB, show decide ((r.length : Int) = n) = false from decide_eq_false hc]; simp
  simp at hc
  have hrn : (r.length : Int) = n := hc
  have hr64 : r.length ≤ 64 := by omega
  (repeat refine A.s rfl ?_)
  refine A.r rfl rfl ?_
  refine A.c rfl hbef .refl ?_
  (repeat refine A.s rfl ?_)
  refine A.b rfl fun b1 => ?_
  refine A.headEq (.ag (setL fun _ => 0)) (by kernel_rfl) ?_
  refine A.wl rfl (set_one _) (arr_len _) (arr_len _) ?_
  (repeat refine A.s rfl ?_)
  refine A.valE 21 rfl (x' := AI (r.length : Nat)) (ai_eq (by rw [List.length_map])) ?_
  refine A.keep [1, 5, 21, 22] rfl ?_
  refine A.loopP (ι := Nat) (fun x => (⟨[(1, rowI r), (5, .v (.pointer (some ⟨b1, 0, none⟩))), (21, AI (r.length : Nat)), (22, AI (x : Nat))], []⟩, [.box b1 (.ag (setL (beforeF c))), .box _ (.ag [AI n, procsA c])]))
    (fun x => x ≤ r.length ∧ ((List.range r.length).drop x).all (fun x => (List.range r.length).all fun d => !badB (beforeF c) r x d) = risesB (beforeF c) r r.length) (fun x => r.length - x) 0 ⟨by omega, rfl⟩ rfl fun x hi ih => ?_
  (repeat refine A.s rfl ?_)
  refine A.cond rfl (fun hc => ?_) (fun hc => ?_)
  · simp at hc
    have h1 := hi.2
    rw [range_drop hc, List.all_cons] at h1
    refine Exists.elim (at_exN (l := r) (i := x) hc) fun vx hvx => ?_
    (repeat refine A.s rfl ?_)
    refine A.valE 26 rfl (x' := AI (r.length : Nat)) (ai_eq (by rw [List.length_map])) ?_
    refine A.keep [1, 5, 6, 21, 22, 26, 27] rfl ?_
    refine A.loopP (ι := Nat) (fun d => (⟨[(1, rowI r), (5, .v (.pointer (some ⟨b1, 0, none⟩))), (6, AI (x : Nat)), (21, AI (r.length : Nat)), (22, AI (x : Nat)), (26, AI (r.length : Nat)), (27, AI (d : Nat))], []⟩, [.box b1 (.ag (setL (beforeF c))), .box _ (.ag [AI n, procsA c])]))
      (fun d => d ≤ r.length ∧ ((List.range r.length).drop d).all (fun d => !badB (beforeF c) r x d) = (List.range r.length).all fun d => !badB (beforeF c) r x d) (fun d => r.length - d) 0 ⟨by omega, rfl⟩ rfl fun d hj jh => ?_
    (repeat refine A.s rfl ?_)
    refine A.cond rfl (fun hc => ?_) (fun hc => ?_)
    · simp at hc
      have h2 := hj.2
      rw [range_drop hc, List.all_cons] at h2
      refine Exists.elim (at_exN (l := r) (i := d) hc) fun vd hvd => ?_
      have hx64 : x < 64 := by omega
      have hd64 : d < 64 := by omega
      (repeat refine A.s rfl ?_)
      refine A.draw 16 [0, 1, 2, 3, 4, 5, 6, 7, 8, 9, 10, 11, 12, 13, 14, 15] noPubs [] (by kernel_rfl) (by kernel_rfl) ?_
      (repeat refine WA.s rfl ?_)
      refine WA.xa rfl (p := x) (by omega) (by omega) (off1 x) rfl ?_
      refine WA.ra rfl (range_at _ hx64) rfl ?_
      (repeat refine WA.s rfl ?_)
      refine WA.shift rfl rfl rfl rfl rfl rfl rfl (by omega) ?_
      refine WA.valE 34 rfl (x' := U64 (beforeF c x >>> d)) (u64_eq (ushr _ _ hd64)) ?_
      (repeat refine WA.s rfl ?_)
      refine WA.valE 37 rfl (x' := AB ((beforeF c x).getLsbD d)) (ab_eq (bit1 _ d)) ?_
      refine WA.split 37 rfl (fun hb => ?_) (fun hb => ?_)
      · (repeat refine WA.s rfl ?_)
        refine WA.x rfl (by omega) (map_at hvd) rfl rfl ?_
        (repeat refine WA.s rfl ?_)
        refine WA.x rfl (by omega) (map_at hvx) rfl rfl ?_
        (repeat refine WA.s rfl ?_)
        refine WA.nil (l := []) rfl ?_
        (repeat refine A.s rfl ?_)
        refine A.valE 47 rfl (x' := AB (badB (beforeF c) r x d)) (ab_eq (by rw [badB, hb, rkL_at hvx, rkL_at hvd]; rfl)) ?_
        refine A.cond rfl (fun hc => ?_) (fun hc => ?_)
        · rw [hc] at h2
          have h3 : risesB (beforeF c) r r.length = false := by rw [← h1, ← h2]; rfl
          (repeat refine A.s rfl ?_); refine A.ret1 (Λ' := []) rfl rfl rfl (List.nil_sublist _) ⟨?_, rfl⟩; refine Sb.eq (ab_eq ?_); rw [checkB, h3]; simp
        · rw [hc] at h2
          (repeat refine A.s rfl ?_)
          refine A.valE 27 rfl (x' := AI ((d + 1 : Nat) : Int)) (inc_eq d (by omega)) ?_
          refine A.sub (by repeat (first | exact trivial | refine ⟨⟨_, rfl, .refl⟩, ?_⟩)) (jh (d + 1) ⟨by omega, by rw [← h2]; simp⟩ (by omega))
      · (repeat refine WA.s rfl ?_)
        refine WA.nil (l := []) rfl ?_
        have h3 : badB (beforeF c) r x d = false := by rw [badB, hb]; rfl
        rw [h3] at h2
        (repeat refine A.s rfl ?_)
        refine A.valE 27 rfl (x' := AI ((d + 1 : Nat) : Int)) (inc_eq d (by omega)) ?_
        refine A.sub (by repeat (first | exact trivial | refine ⟨⟨_, rfl, .refl⟩, ?_⟩)) (jh (d + 1) ⟨by omega, by rw [← h2]; simp⟩ (by omega))
    · simp at hc
      have hdl : d = r.length := by omega
      have h2 := hj.2
      rw [hdl, range_end, List.all_nil] at h2
      rw [← h2, Bool.true_and] at h1
      (repeat refine A.s rfl ?_)
      refine A.valE 22 rfl (x' := AI ((x + 1 : Nat) : Int)) (inc_eq x (by omega)) ?_
      refine A.sub (by repeat (first | exact trivial | refine ⟨⟨_, rfl, .refl⟩, ?_⟩)) (ih (x + 1) ⟨by omega, h1⟩ (by omega))
  · simp at hc
    have hxl : x = r.length := by omega
    have h1 := hi.2
    rw [hxl, range_end, List.all_nil] at h1
    (repeat refine A.s rfl ?_); refine A.ret1 (Λ' := []) rfl rfl rfl (List.nil_sublist _) ⟨?_, rfl⟩; refine Sb.eq (ab_eq ?_); rw [checkB, ← h1, hm]; simp; omega
end Go.Proofs.YtgmeahcclogfmaaDoor
/-!
  Chapter 23: May of the reference.
-/
namespace Go.Proofs.YtgmeahcclogfmaaDoor
open Go Go.Tp
set_option linter.unusedVariables false
set_option linter.unusedSimpArgs false
set_option maxRecDepth 100000
set_option maxHeartbeats 4000000
theorem no_may {n : Int} {c : Procs} (hz : sizeN c ≤ 1000) (h : ¬ Valid n c) : nmayB n c = false := Bool.eq_false_iff.2 fun e => h ((mayB_iff hz).1 e)
theorem useN_cons (p : List (List Int)) (c : Procs) (x : Int) : useN (p :: c) x = p.flatten.count x + useN c x := by simp [useN]
theorem useN_le (c : Procs) (x : Int) : useN c x ≤ flatL c := by
  induction c with
  | nil => simp [useN, flatL]
  | cons p c ih =>
    have h1 := List.count_le_length (a := x) (l := p.flatten)
    have h2 : flatL (p :: c) = p.flatten.length + flatL c := by simp [flatL]
    rw [useN_cons]; omega
theorem useN_none {n : Int} {c : Procs} (h : ∀ p, p ∈ c → FineP n p) {x : Int} (hx : n ≤ x) : useN c x = 0 := by
  induction c with
  | nil => simp [useN]
  | cons p c ih =>
    rw [useN_cons, ih (fun q hq => h q (List.mem_cons_of_mem _ hq)), List.count_eq_zero.2]
    intro hm
    have := ((h p (List.mem_cons_self ..)).rng x hm).2
    omega
def okX (n : Int) (p : List (List Int)) (x : Int) : Prop := 0 ≤ x ∧ x < n ∧ p.flatten.count x ≤ 1
theorem fine_of {n : Int} {p : List (List Int)} (h0 : p ≠ []) (h : ∀ s, s ∈ p → s ≠ [] ∧ ∀ x, x ∈ s → okX n p x) : FineP n p where
  ne := h0
  nes := fun s hs => (h s hs).1
  rng := fun x hx => by
    obtain ⟨s, hs, hx⟩ := List.mem_flatten.1 hx
    exact ⟨((h s hs).2 x hx).1, ((h s hs).2 x hx).2.1⟩
  nd := fun x hx => by
    obtain ⟨s, hs, hx⟩ := List.mem_flatten.1 hx
    exact ((h s hs).2 x hx).2.2
theorem fine_ok {n : Int} {p : List (List Int)} (h : FineP n p) {s : List Int} (hs : s ∈ p) {x : Int} (hx : x ∈ s) : okX n p x := by
  have hm := List.mem_flatten.2 ⟨s, hs, hx⟩
  exact ⟨(h.rng x hm).1, (h.rng x hm).2, h.nd x hm⟩
theorem mem_upto {α : Type} {l : List α} {Q : α → Prop} (h : ∀ k x, k < l.length → l[k]? = some x → Q x) : ∀ x, x ∈ l → Q x := fun x hx => by
  obtain ⟨k, hk, e⟩ := List.mem_iff_getElem.1 hx
  exact h k x hk (by rw [List.getElem?_eq_getElem hk, e])
theorem upto_next {α : Type} {l : List α} {Q : α → Prop} {i : Nat} {y : α} (h : ∀ k x, k < i → l[k]? = some x → Q x) (hy : l[i]? = some y) (q : Q y) : ∀ k x, k < i + 1 → l[k]? = some x → Q x := fun k x hk hx => by
  by_cases hki : k = i
  · subst hki; rw [hy] at hx; injection hx with hx; subst hx; exact q
  · exact h k x (by omega) hx
theorem rmay_p (n : Int) (c : Procs) (hs : ShortN c) (hz : sizeN c ≤ 1000) : Pure Tryd.prog gs0 5 [netA n c] (AB (nmayB n c)) := by
  have hcl : ((c.map procA).length : Int) = c.length := by rw [List.length_map]
  by_cases hn0 : n < 0
  · have hno : ¬ Valid n c := fun h => by have := mayG_n h.g; omega
    refine Pure.of (S := tt) (fn := Tryd.f5) (n := 126) tt_ok Tryd.func5 rfl rfl rfl rfl fun w0 h0 F hgs => ?_
    (repeat first|refine A.s rfl ?_|refine A.r rfl rfl ?_|refine A.b rfl fun bx=>?_)
    refine A.valE 13 rfl (x' := AB true) (ab_eq (by simpa using hn0)) ?_
    ((repeat refine A.s rfl ?_); refine A.ret1 (Λ' := []) rfl rfl rfl (List.nil_sublist _) ⟨?_, rfl⟩; exact Sb.eq (ab_eq (no_may hz hno).symm))
  obtain ⟨m, rfl⟩ : ∃ m : Nat, n = m := ⟨n.toNat, by omega⟩
  by_cases g2 : (m : Int) ≤ 64
  case neg =>
    have hno : ¬ Valid m c := fun h => by have := mayG_n h.g; omega
    refine Pure.of (S := tt) (fn := Tryd.f5) (n := 126) tt_ok Tryd.func5 rfl rfl rfl rfl fun w0 h0 F hgs => ?_
    (repeat first|refine A.s rfl ?_|refine A.r rfl rfl ?_|refine A.b rfl fun bx=>?_)
    refine A.valE 13 rfl (x' := AB false) (ab_eq (by simp)) ?_
    skip
    refine A.valE 18 rfl (x' := AB true) (ab_eq (by simp; omega)) ?_
    ((repeat refine A.s rfl ?_); refine A.ret1 (Λ' := []) rfl rfl rfl (List.nil_sublist _) ⟨?_, rfl⟩; exact Sb.eq (ab_eq (no_may hz hno).symm))
  by_cases g3 : 1 ≤ c.length
  case neg =>
    have hno : ¬ Valid m c := fun h => by have := h.g; simp only [mayG, Bool.and_eq_true, decide_eq_true_eq] at this; omega
    refine Pure.of (S := tt) (fn := Tryd.f5) (n := 126) tt_ok Tryd.func5 rfl rfl rfl rfl fun w0 h0 F hgs => ?_
    (repeat first|refine A.s rfl ?_|refine A.r rfl rfl ?_|refine A.b rfl fun bx=>?_)
    refine A.valE 13 rfl (x' := AB false) (ab_eq (by simp)) ?_
    skip
    refine A.valE 18 rfl (x' := AB false) (ab_eq (by simp; omega)) ?_
    (repeat first|refine A.s rfl ?_|refine A.r rfl rfl ?_)
    refine A.valE 24 rfl (x' := AB true) (ab_eq (by simp; omega)) ?_
    ((repeat refine A.s rfl ?_); refine A.ret1 (Λ' := []) rfl rfl rfl (List.nil_sublist _) ⟨?_, rfl⟩; exact Sb.eq (ab_eq (no_may hz hno).symm))
  by_cases g4 : c.length ≤ 16
  case neg =>
    have hno : ¬ Valid m c := fun h => by have := h.g; simp only [mayG, Bool.and_eq_true, decide_eq_true_eq] at this; omega
    refine Pure.of (S := tt) (fn := Tryd.f5) (n := 126) tt_ok Tryd.func5 rfl rfl rfl rfl fun w0 h0 F hgs => ?_
    (repeat first|refine A.s rfl ?_|refine A.r rfl rfl ?_|refine A.b rfl fun bx=>?_)
    refine A.valE 13 rfl (x' := AB false) (ab_eq (by simp)) ?_
    skip
    refine A.valE 18 rfl (x' := AB false) (ab_eq (by simp; omega)) ?_
    (repeat first|refine A.s rfl ?_|refine A.r rfl rfl ?_)
    refine A.valE 24 rfl (x' := AB false) (ab_eq (by simp; omega)) ?_
    (repeat first|refine A.s rfl ?_|refine A.r rfl rfl ?_)
    refine A.valE 29 rfl (x' := AB true) (ab_eq (by simp; omega)) ?_
    ((repeat refine A.s rfl ?_); refine A.ret1 (Λ' := []) rfl rfl rfl (List.nil_sublist _) ⟨?_, rfl⟩; exact Sb.eq (ab_eq (no_may hz hno).symm))
  have hg : mayG m c = true := by simp only [mayG, Bool.and_eq_true, decide_eq_true_eq]; omega
  have hm64 : m ≤ 64 := by omega
  refine Pure.of (S := tt) (fn := Tryd.f5) (n := 126) tt_ok Tryd.func5 rfl rfl rfl rfl fun w0 h0 F hgs => ?_
  (repeat first|refine A.s rfl ?_|refine A.r rfl rfl ?_|refine A.b rfl fun bx=>?_)
  refine A.valE 13 rfl (x' := AB false) (ab_eq (by simp)) ?_
  skip
  refine A.valE 18 rfl (x' := AB false) (ab_eq (by simp; omega)) ?_
  (repeat first|refine A.s rfl ?_|refine A.r rfl rfl ?_)
  refine A.valE 24 rfl (x' := AB false) (ab_eq (by simp; omega)) ?_
  (repeat first|refine A.s rfl ?_|refine A.r rfl rfl ?_)
  refine A.valE 29 rfl (x' := AB false) (ab_eq (by simp; omega)) ?_
  (repeat refine A.s rfl ?_)
  refine A.keep [1, 3] rfl ?_
  refine A.loopP (ι := Nat) (fun i => (⟨[(1, .v (.pointer (some ⟨_, 0, none⟩))), (3, AI (i : Nat))], []⟩, [.box _ (.ag [AI m, procsA c])]))
    (fun i => i ≤ c.length ∧ ∀ k p, k < i → c[k]? = some p → FineP m p) (fun i => c.length - i) 0 ⟨by omega, fun k p hk => by omega⟩ rfl fun i hi ih => ?_
  (repeat first|refine A.s rfl ?_|refine A.r rfl rfl ?_)
  refine A.cond rfl (fun hc => ?_) (fun hc => ?_)
  · simp at hc
    refine Exists.elim (at_exN (l := c) (i := i) hc) fun p hp => ?_
    have hpm : p ∈ c := List.mem_of_getElem? hp
    have hpl : ((p.map rowI).length : Int) = p.length := by rw [List.length_map]
    have hpb := hs.steps p hpm
    have hpz : sizeP p ≤ 1000 := by have := sizeN_mem hpm; omega
    (repeat first|refine A.s rfl ?_|refine A.r rfl rfl ?_)
    refine A.x rfl (by omega) (map_at hp) rfl rfl ?_
    (repeat refine A.s rfl ?_)
    refine A.cond rfl (fun hc => ?_) (fun hc => ?_)
    · simp at hc
      have hno : ¬ Valid m c := fun h => (h.fine p hpm).ne (List.eq_nil_of_length_eq_zero (by omega))
      ((repeat refine A.s rfl ?_); refine A.ret1 (Λ' := []) rfl rfl rfl (List.nil_sublist _) ⟨?_, rfl⟩; exact Sb.eq (ab_eq (no_may hz hno).symm))
    simp at hc
    have hpn : p ≠ [] := fun e => by rw [e] at hc; simp at hc
    (repeat refine A.s rfl ?_)
    refine A.keep [1, 3, 4] rfl ?_
    refine A.loopP (ι := Nat) (fun j => (⟨[(1, .v (.pointer (some ⟨_, 0, none⟩))), (3, AI (i : Nat)), (4, AI (j : Nat))], []⟩, [.box _ (.ag [AI m, procsA c])]))
      (fun j => j ≤ p.length ∧ ∀ k s, k < j → p[k]? = some s → s ≠ [] ∧ ∀ x, x ∈ s → okX m p x) (fun j => p.length - j) 0 ⟨by omega, fun k s hk => by omega⟩ rfl fun j hj jh => ?_
    (repeat first|refine A.s rfl ?_|refine A.r rfl rfl ?_)
    refine A.x rfl (by omega) (map_at hp) rfl rfl ?_
    (repeat refine A.s rfl ?_)
    refine A.cond rfl (fun hc => ?_) (fun hc => ?_)
    · simp at hc
      refine Exists.elim (at_exN (l := p) (i := j) hc) fun s hst => ?_
      have hsm : s ∈ p := List.mem_of_getElem? hst
      have hsl : ((s.map AI).length : Int) = s.length := by rw [List.length_map]
      have hsb := hs.uses p hpm s hsm
      (repeat first|refine A.s rfl ?_|refine A.r rfl rfl ?_)
      refine A.x rfl (by omega) (map_at hp) rfl rfl ?_
      (repeat refine A.s rfl ?_)
      refine A.x rfl (by omega) (map_at hst) rfl rfl ?_
      (repeat refine A.s rfl ?_)
      refine A.cond rfl (fun hc => ?_) (fun hc => ?_)
      · simp at hc
        have hno : ¬ Valid m c := fun h => (h.fine p hpm).nes s hsm (List.eq_nil_of_length_eq_zero (by omega))
        ((repeat refine A.s rfl ?_); refine A.ret1 (Λ' := []) rfl rfl rfl (List.nil_sublist _) ⟨?_, rfl⟩; exact Sb.eq (ab_eq (no_may hz hno).symm))
      simp at hc
      have hsn : s ≠ [] := fun e => by rw [e] at hc; simp at hc
      (repeat refine A.s rfl ?_)
      refine A.keep [1, 3, 4, 5, 6] rfl ?_
      refine A.loopP (ι := Nat) (fun k => (⟨[(1, .v (.pointer (some ⟨_, 0, none⟩))), (3, AI (i : Nat)), (4, AI (j : Nat)), (5, rowI s), (6, AI (k : Nat))], []⟩, [.box _ (.ag [AI m, procsA c])]))
        (fun k => k ≤ s.length ∧ ∀ k' x, k' < k → s[k']? = some x → okX m p x) (fun k => s.length - k) 0 ⟨by omega, fun k x hk => by omega⟩ rfl fun k hk kh => ?_
      (repeat refine A.s rfl ?_)
      refine A.cond rfl (fun hc => ?_) (fun hc => ?_)
      · simp at hc
        refine Exists.elim (at_exN (l := s) (i := k) hc) fun x hx => ?_
        have hxm : x ∈ s := List.mem_of_getElem? hx
        (repeat refine A.s rfl ?_)
        refine A.draw 24 [0, 1, 2, 3, 4, 5, 6, 7, 8, 9, 10, 11, 12, 13, 14, 15, 16, 17, 18, 19, 20, 21, 22, 23] noPubs [] (by kernel_rfl) (by kernel_rfl) ?_
        (repeat refine WA.s rfl ?_)
        refine WA.x rfl (by omega) (map_at hx) rfl rfl ?_
        (repeat refine WA.s rfl ?_)
        refine WA.gS rfl (fun hc => ?_) (fun hc => ?_)
        · simp at hc
          have hno : ¬ Valid m c := fun h => by have := (fine_ok (h.fine p hpm) hsm hxm).1; omega
          (repeat refine WA.s rfl ?_)
          refine WA.nil (l := []) rfl ?_
          ((repeat refine A.s rfl ?_); refine A.ret1 (Λ' := []) rfl rfl rfl (List.nil_sublist _) ⟨?_, rfl⟩; exact Sb.eq (ab_eq (no_may hz hno).symm))
        simp at hc
        have x0 := hc
        (repeat refine WA.s rfl ?_)
        refine WA.x rfl (by omega) (map_at hx) rfl rfl ?_
        (repeat first|refine WA.s rfl ?_|refine WA.r rfl rfl ?_)
        refine WA.gS rfl (fun hc => ?_) (fun hc => ?_)
        · simp at hc
          have hno : ¬ Valid m c := fun h => by have := (fine_ok (h.fine p hpm) hsm hxm).2.1; omega
          (repeat refine WA.s rfl ?_)
          refine WA.nil (l := []) rfl ?_
          ((repeat refine A.s rfl ?_); refine A.ret1 (Λ' := []) rfl rfl rfl (List.nil_sublist _) ⟨?_, rfl⟩; exact Sb.eq (ab_eq (no_may hz hno).symm))
        simp at hc
        have x1 := hc
        (repeat first|refine WA.s rfl ?_|refine WA.r rfl rfl ?_)
        refine WA.x rfl (by omega) (map_at hp) rfl rfl ?_
        (repeat refine WA.s rfl ?_)
        refine WA.x rfl (by omega) (map_at hx) rfl rfl ?_
        (repeat refine WA.s rfl ?_)
        refine WA.nil (l := []) rfl ?_
        skip
        refine A.c rfl (uses_p p x hpz) .refl ?_
        (repeat refine A.s rfl ?_)
        refine A.cond rfl (fun hc => ?_) (fun hc => ?_)
        · simp at hc
          have hno : ¬ Valid m c := fun h => by have := (fine_ok (h.fine p hpm) hsm hxm).2.2; omega
          ((repeat refine A.s rfl ?_); refine A.ret1 (Λ' := []) rfl rfl rfl (List.nil_sublist _) ⟨?_, rfl⟩; exact Sb.eq (ab_eq (no_may hz hno).symm))
        · simp at hc
          (repeat refine A.s rfl ?_)
          refine A.valE 6 rfl (x' := AI ((k + 1 : Nat) : Int)) (inc_eq k (by omega)) ?_
          refine A.sub (by repeat (first | exact trivial | refine ⟨⟨_, rfl, .refl⟩, ?_⟩)) (kh (k + 1) ⟨by omega, upto_next hk.2 hx ⟨x0, x1, by omega⟩⟩ (by omega))
      · simp at hc
        have hkl : k = s.length := by omega
        have h3 := hk.2
        rw [hkl] at h3
        (repeat refine A.s rfl ?_)
        refine A.valE 4 rfl (x' := AI ((j + 1 : Nat) : Int)) (inc_eq j (by omega)) ?_
        refine A.sub (by repeat (first | exact trivial | refine ⟨⟨_, rfl, .refl⟩, ?_⟩)) (jh (j + 1) ⟨by omega, upto_next hj.2 hst ⟨hsn, mem_upto h3⟩⟩ (by omega))
    · simp at hc
      have hjl : j = p.length := by omega
      have h2 := hj.2
      rw [hjl] at h2
      (repeat refine A.s rfl ?_)
      refine A.valE 3 rfl (x' := AI ((i + 1 : Nat) : Int)) (inc_eq i (by omega)) ?_
      refine A.sub (by repeat (first | exact trivial | refine ⟨⟨_, rfl, .refl⟩, ?_⟩)) (ih (i + 1) ⟨by omega, upto_next hi.2 hp (fine_of hpn (mem_upto h2))⟩ (by omega))
  simp at hc
  have hil : i = c.length := by omega
  have h1 := hi.2
  rw [hil] at h1
  have hfine : ∀ p, p ∈ c → FineP m p := mem_upto h1
  (repeat refine A.s rfl ?_)
  refine A.keep [1, 7] rfl ?_
  refine A.loopP (ι := Nat) (fun h => (⟨[(1, .v (.pointer (some ⟨_, 0, none⟩))), (7, AI (h : Nat))], []⟩, [.box _ (.ag [AI m, procsA c])]))
    (fun h => h ≤ m ∧ ∀ k : Nat, k < h → useN c (k : Int) = 0 ∨ useN c (k : Int) = 2) (fun h => m - h) 0 ⟨by omega, fun k hk => by omega⟩ rfl fun h hh hr => ?_
  (repeat first|refine A.s rfl ?_|refine A.r rfl rfl ?_)
  refine A.cond rfl (fun hc => ?_) (fun hc => ?_)
  · simp at hc
    (repeat refine A.s rfl ?_)
    refine A.keep [1, 7, 8, 9] rfl ?_
    refine A.loopP (ι := Nat × Nat) (fun q => (⟨[(1, .v (.pointer (some ⟨_, 0, none⟩))), (7, AI (h : Nat)), (8, AI (q.2 : Nat)), (9, AI (q.1 : Nat))], []⟩, [.box _ (.ag [AI m, procsA c])]))
      (fun q => q.1 ≤ c.length ∧ q.2 + useN (c.drop q.1) (h : Nat) = useN c (h : Nat)) (fun q => c.length - q.1) (0, 0) ⟨by simp, by simp⟩ rfl fun q hq qh => ?_
    obtain ⟨i2, acc⟩ := q
    simp only at hq qh ⊢
    (repeat first|refine A.s rfl ?_|refine A.r rfl rfl ?_)
    refine A.cond rfl (fun hc => ?_) (fun hc => ?_)
    · simp at hc
      refine Exists.elim (at_exN (l := c) (i := i2) hc) fun p hp => ?_
      have hpm : p ∈ c := List.mem_of_getElem? hp
      have hpz : sizeP p ≤ 1000 := by have := sizeN_mem hpm; omega
      have h2 := hq.2
      rw [drop_at hp, useN_cons] at h2
      have h3 := useN_le c (h : Nat)
      have h4 := flatL_le c
      (repeat first|refine A.s rfl ?_|refine A.r rfl rfl ?_)
      refine A.x rfl (by omega) (map_at hp) rfl rfl ?_
      (repeat refine A.s rfl ?_)
      refine A.c rfl (uses_p p (h : Nat) hpz) .refl ?_
      (repeat refine A.s rfl ?_)
      refine A.valE 8 rfl (x' := AI ((acc + p.flatten.count (h : Int) : Nat) : Int)) (ai_eq (by rw [w64_id (by unfold i64; omega)]; push_cast; rfl)) ?_
      refine A.valE 9 rfl (x' := AI ((i2 + 1 : Nat) : Int)) (inc_eq i2 (by omega)) ?_
      refine A.sub (by repeat (first | exact trivial | refine ⟨⟨_, rfl, .refl⟩, ?_⟩)) (qh (i2 + 1, acc + p.flatten.count (h : Int)) ⟨by simp only; omega, by simp only; omega⟩ (by simp only; omega))
    · simp at hc
      have hil2 : i2 = c.length := by omega
      have h2 := hq.2
      rw [hil2, List.drop_length] at h2
      have h2 : acc = useN c (h : Nat) := by rw [← h2]; simp [useN]
      (repeat refine A.s rfl ?_)
      ((fail_if_success (refine A.lit? rfl ?_)); refine A.gS rfl (fun hc => ?_) (fun hc => ?_))
      · simp at hc
        have a0 := hc
        (repeat refine A.s rfl ?_)
        refine A.cond rfl (fun hc => ?_) (fun hc => ?_)
        · simp at hc
          have hno : ¬ Valid m c := fun v => by have := v.two h (by omega); omega
          ((repeat refine A.s rfl ?_); refine A.ret1 (Λ' := []) rfl rfl rfl (List.nil_sublist _) ⟨?_, rfl⟩; exact Sb.eq (ab_eq (no_may hz hno).symm))
        · simp at hc
          (repeat refine A.s rfl ?_)
          refine A.valE 7 rfl (x' := AI ((h + 1 : Nat) : Int)) (inc_eq h (by omega)) ?_
          refine A.sub (by repeat (first | exact trivial | refine ⟨⟨_, rfl, .refl⟩, ?_⟩)) (hr (h + 1) ⟨by omega, fun k hk => ?_⟩ (by omega))
          by_cases hkh : k = h
          · subst hkh; right; omega
          · exact hh.2 k (by omega)
      · simp at hc
        (repeat refine A.s rfl ?_)
        refine A.valE 7 rfl (x' := AI ((h + 1 : Nat) : Int)) (inc_eq h (by omega)) ?_
        refine A.sub (by repeat (first | exact trivial | refine ⟨⟨_, rfl, .refl⟩, ?_⟩)) (hr (h + 1) ⟨by omega, fun k hk => ?_⟩ (by omega))
        by_cases hkh : k = h
        · subst hkh; left; omega
        · exact hh.2 k (by omega)
  · simp at hc
    have hhm : h = m := by omega
    have h2 := hh.2
    rw [hhm] at h2
    have hval : Valid m c := ⟨hg, hfine, fun k hk => by
      by_cases hkm : k < m
      · exact h2 k hkm
      · left; exact useN_none hfine (by omega)⟩
    (repeat refine A.s rfl ?_); refine A.ret1 (Λ' := []) rfl rfl rfl (List.nil_sublist _) ⟨?_, rfl⟩; refine Sb.eq (ab_eq ?_); rw [(mayB_iff hz).2 hval]
end Go.Proofs.YtgmeahcclogfmaaDoor
/-!
  Chapter 23: the kernel of a valid network is a network of cyclic processes; in plain words.
-/
namespace Go.Proofs.YtgmeahcclogfmaaDoor
open Go Go.Tp
set_option linter.unusedVariables false
set_option linter.unusedSimpArgs false
set_option maxRecDepth 100000
abbrev vB : List KV := [⟨1, 0⟩]
/-! ### it is a right kernel -/
theorem okL_all {l : List KV} {n : Nat} : ∀ {ps : List PR}, (∀ p, p ∈ ps → okR l n false p = true) → okL l n false false ps = true
  | [], _ => by rw [okL]
  | p :: r, h => by
    rw [okL, Bool.or_false, h p (List.mem_cons_self ..), Bool.true_and]
    exact okL_all fun x hx => h x (List.mem_cons_of_mem _ hx)
theorem szL_bound {n : Nat} : ∀ {ps : List PR}, (∀ p, p ∈ ps → szR p ≤ n) → szL ps ≤ ps.length * n
  | [], _ => by simp [szL]
  | p :: r, h => by
    have h1 := h p (List.mem_cons_self ..)
    have h2 := szL_bound (ps := r) fun x hx => h x (List.mem_cons_of_mem _ hx)
    rw [szL, List.length_cons, Nat.succ_mul]; omega
theorem htL_bound {n : Nat} : ∀ {ps : List PR}, (∀ p, p ∈ ps → htR p ≤ n) → htL ps ≤ n
  | [], _ => by simp [htL]
  | p :: r, h => by
    have h1 := h p (List.mem_cons_self ..)
    have h2 := htL_bound (ps := r) fun x hx => h x (List.mem_cons_of_mem _ hx)
    rw [htL]; omega
theorem wfRl_all : ∀ {l : List PR}, (∀ a, a ∈ l → wfR a) → wfRl l
  | [], _ => by rw [wfRl]; trivial
  | x :: r, h => by rw [wfRl]; exact ⟨h x (List.mem_cons_self ..), wfRl_all fun a ha => h a (List.mem_cons_of_mem _ ha)⟩
structure Fit (n : Nat) (s h : Nat) (p : PR) : Prop where
  ok : okR vB n false p = true
  sz : szR p ≤ s
  ht : htR p ≤ h
  wf : wfR p
theorem end_kind (n : Nat) (x : Int) (o : Bool) (h0 : 0 ≤ x) (h1 : x + 2 < n) : kindB vB n (endR (x + 2) o) = true := by
  have hch : ∀ no, no ≤ 1 → chanB n (x + 2) 1 no = true := fun no hn => by
    have e1 : (x + 2 != no) = true := by rw [bne, beq_eq_false_iff_ne.2 (by omega)]; rfl
    simp only [chanB, e1, primB, Bool.and_eq_true, Bool.or_eq_true, decide_eq_true_eq]
    refine ⟨⟨⟨⟨by omega, by omega⟩, trivial⟩, by decide⟩, .inl (by omega)⟩
  cases o with
  | true =>
    have hs : kindB vB n ⟨6, x + 2, 0, 1, [], [⟨2, 0, 0, 0, 0, []⟩], [], []⟩ = (shapeR ⟨6, x + 2, 0, 1, [], [⟨2, 0, 0, 0, 0, []⟩], [], []⟩ true false 0 0 1 1 0 0 0 0 && chanB n (x + 2) 1 0 && fit1 vB [⟨2, 0, 0, 0, 0, []⟩] 1) := rfl
    rw [endR, if_pos rfl, hs, hch 0 (by omega)]
    have : fit1 vB [⟨2, 0, 0, 0, 0, []⟩] 1 = true := by decide
    rw [this]; rfl
  | false =>
    have hs : kindB vB n ⟨5, x + 2, 0, 1, [⟨0, []⟩], [], [], []⟩ = (shapeR ⟨5, x + 2, 0, 1, [⟨0, []⟩], [], [], []⟩ true false 1 1 0 0 0 0 0 0 && to1 (inputB vB n (x + 2) 1) [⟨0, []⟩]) := rfl
    rw [endR, if_neg (by decide), hs]
    have : to1 (inputB vB n (x + 2) 1) [⟨0, []⟩] = true := by
      show (chanB n (x + 2) 1 1 && placeB vB ⟨0, []⟩ 1) = true
      rw [hch 1 (by omega)]; rfl
    rw [this]; rfl
theorem end_fit (n : Nat) (x : Int) (o : Bool) (h0 : 0 ≤ x) (h1 : x + 2 < n) : Fit n 1 1 (endR (x + 2) o) := by
  have hk := end_kind n x o h0 h1
  cases o with
  | true =>
    rw [endR, if_pos rfl] at hk ⊢
    refine ⟨?_, ?_, ?_, ?_⟩
    · rw [okR_eq, hk]; simp [okL, okGs]
    · rw [szR_eq]; simp [szL, szGs]
    · rw [htR_eq]; simp [htL, htGs]
    · rw [wfR, wfGl, wfRl, wfKl, wfKl, wfK, wfKl]
      refine ⟨⟨fun t ht => (by cases ht), ⟨⟨⟨by unfold u8; omega, by unfold u8; omega, by unfold u8; omega, by unfold i32; omega, by unfold i64; omega⟩, trivial⟩, trivial⟩, by simp, by simp, by simp⟩, trivial, trivial⟩
  | false =>
    rw [endR, if_neg (by decide)] at hk ⊢
    refine ⟨?_, ?_, ?_, ?_⟩
    · rw [okR_eq, hk]; simp [okL, okGs]
    · rw [szR_eq]; simp [szL, szGs]
    · rw [htR_eq]; simp [htL, htGs]
    · rw [wfR, wfGl, wfRl, wfKl]
      refine ⟨⟨fun t ht => ?_, trivial, by simp, by simp, by simp⟩, trivial, trivial⟩
      rw [List.mem_singleton] at ht; subst ht
      show wfKl []
      rw [wfKl]; trivial
theorem seq_fit {n k s h : Nat} {l : List PR} (kk : Int) (hk : kindB vB n ⟨kk, 0, 0, 0, [], [], [], l⟩ = true) (h11 : (kk == 11) = false) (hl : ∀ p, p ∈ l → Fit n s h p) (hlen : l.length ≤ 2048) : Fit n (1 + l.length * s) (1 + h) ⟨kk, 0, 0, 0, [], [], [], l⟩ := by
  refine ⟨?_, ?_, ?_, ?_⟩
  · rw [okR_eq, hk]
    simp only [h11, Bool.and_false, Bool.not_false, Bool.and_true, Bool.true_and]
    rw [okL_all fun p hp => (hl p hp).ok]; simp [okGs]
  · rw [szR_eq]; have := szL_bound fun p hp => (hl p hp).sz; simp [szGs]; omega
  · rw [htR_eq]; have := htL_bound fun p hp => (hl p hp).ht; simp [htGs]; omega
  · rw [wfR, wfGl, wfKl]
    exact ⟨⟨fun t ht => (by cases ht), trivial, by simp, by simp, by omega⟩, trivial, wfRl_all fun p hp => (hl p hp).wf⟩
theorem kind_par {n : Nat} {l : List PR} (h : l.length ≤ 16) : kindB vB n ⟨10, 0, 0, 0, [], [], [], l⟩ = true := by
  have hs : kindB vB n ⟨10, 0, 0, 0, [], [], [], l⟩ = shapeR ⟨10, 0, 0, 0, [], [], [], l⟩ false false 0 0 0 0 0 0 0 16 := rfl
  rw [hs]
  have : inB l.length 0 16 = true := by simp only [inB, Bool.and_eq_true, decide_eq_true_eq]; omega
  simp [shapeR, this]; decide
theorem kind_seq {n : Nat} {l : List PR} (h : l.length ≤ 2048) : kindB vB n ⟨9, 0, 0, 0, [], [], [], l⟩ = true := by
  have hs : kindB vB n ⟨9, 0, 0, 0, [], [], [], l⟩ = shapeR ⟨9, 0, 0, 0, [], [], [], l⟩ false false 0 0 0 0 0 0 0 2048 := rfl
  rw [hs]
  have : inB l.length 0 2048 = true := by simp only [inB, Bool.and_eq_true, decide_eq_true_eq]; omega
  simp [shapeR, this]; decide
theorem ends_mem : ∀ {seen l : List Int} {e : PR}, e ∈ endsS seen l → ∃ x o, x ∈ l ∧ e = endR (x + 2) o
  | _, [], e, h => by rw [endsS] at h; cases h
  | seen, y :: l, e, h => by
    rw [endsS] at h
    rcases List.mem_cons.1 h with rfl | h
    · exact ⟨y, _, List.mem_cons_self .., rfl⟩
    · obtain ⟨x, o, h1, h2⟩ := ends_mem h
      exact ⟨x, o, List.mem_cons_of_mem _ h1, h2⟩
structure StepOk (n : Nat) (s : List Int) : Prop where
  ne : s ≠ []
  len : s.length ≤ 16
  rng : ∀ x, x ∈ s → 0 ≤ x ∧ x + 2 < n
theorem par_fit {n : Nat} {seen s : List Int} (h : StepOk n s) : Fit n (1 + s.length) 2 (parR (endsS seen s)) := by
  have hf : ∀ e, e ∈ endsS seen s → Fit n 1 1 e := fun e he => by
    obtain ⟨x, o, hx, rfl⟩ := ends_mem he
    exact end_fit n x o (h.rng x hx).1 (h.rng x hx).2
  have hlen := endsS_len seen s
  unfold parR
  split
  · rename_i x hx
    have := hf x (by rw [hx]; exact List.mem_cons_self ..)
    exact ⟨this.ok, by have := this.sz; omega, by have := this.ht; omega, this.wf⟩
  · have := seq_fit (k := 0) 10 (kind_par (n := n) (by rw [hlen]; exact h.len)) (by decide) hf (by rw [hlen]; have := h.len; omega)
    rw [hlen, Nat.mul_one] at this
    exact this
theorem steps_mem {n : Nat} : ∀ {seen : List Int} {p : List (List Int)} {e : PR}, e ∈ stepsS seen p → ∃ seen' s, s ∈ p ∧ e = parR (endsS seen' s)
  | _, [], e, h => by rw [stepsS] at h; cases h
  | seen, y :: l, e, h => by
    rw [stepsS] at h
    rcases List.mem_cons.1 h with rfl | h
    · exact ⟨_, y, List.mem_cons_self .., rfl⟩
    · obtain ⟨x, o, h1, h2⟩ := steps_mem (n := n) h
      exact ⟨x, o, List.mem_cons_of_mem _ h1, h2⟩
theorem steps_sz {n : Nat} : ∀ {p : List (List Int)} {seen : List Int}, (∀ s, s ∈ p → StepOk n s) → szL (stepsS seen p) ≤ sizeP p
  | [], _, _ => by simp [stepsS, szL, sizeP]
  | s :: p, seen, h => by
    have h1 := (par_fit (seen := seen) (h s (List.mem_cons_self ..))).sz
    have h2 := steps_sz (p := p) (seen := seen ++ s) fun x hx => h x (List.mem_cons_of_mem _ hx)
    rw [stepsS, szL, sizeP_cons]; omega
theorem while_fit {n : Nat} {seen : List Int} {p : List (List Int)} (h : ∀ s, s ∈ p → StepOk n s) (hl : p.length ≤ 2048) : Fit n (2 + sizeP p) 4 (whileR (stepsS seen p)) := by
  have hf : ∀ e, e ∈ stepsS seen p → Fit n 17 2 e := fun e he => by
    obtain ⟨seen', s, hs, rfl⟩ := steps_mem (n := n) he
    have := par_fit (seen := seen') (h s hs)
    exact ⟨this.ok, by have := this.sz; have := (h s hs).len; omega, this.ht, this.wf⟩
  have hlen := stepsS_len seen p
  have hq := seq_fit (k := 0) 9 (kind_seq (n := n) (l := stepsS seen p) (by rw [hlen]; exact hl)) (by decide) hf (by rw [hlen]; exact hl)
  have hz : szR ⟨9, 0, 0, 0, [], [], [], stepsS seen p⟩ ≤ 1 + sizeP p := by
    rw [szR_eq]; have := steps_sz (seen := seen) h; simp [szGs]; omega
  have hk : kindB vB n (whileR (stepsS seen p)) = true := by
    have hs : kindB vB n (whileR (stepsS seen p)) = (shapeR (whileR (stepsS seen p)) false false 0 0 1 1 0 0 1 1 && fit1 vB [⟨1, 0, 0, 1, 0, []⟩] 3) := rfl
    have : fit1 vB [⟨1, 0, 0, 1, 0, []⟩] 3 = true := by decide
    rw [hs, this]; rfl
  unfold whileR at hk ⊢
  refine ⟨?_, ?_, ?_, ?_⟩
  · rw [okR_eq, hk]
    have h1 : okL vB n false false [⟨9, 0, 0, 0, [], [], [], stepsS seen p⟩] = true := okL_all fun x hx => by rw [List.mem_singleton] at hx; subst hx; exact hq.ok
    show (true && !(false && false) && okL vB n false false _ && okGs vB n false []) = true
    rw [h1]; simp [okGs]
  · rw [szR_eq]; simp [szL, szGs]; omega
  · rw [htR_eq]; have := hq.ht; simp [htL, htGs]; omega
  · rw [wfR, wfGl, wfRl, wfRl, wfKl, wfK, wfKl]
    exact ⟨⟨fun t ht => (by cases ht), ⟨⟨⟨by unfold u8; omega, by unfold u8; omega, by unfold u8; omega, by unfold i32; omega, by unfold i64; omega⟩, trivial⟩, trivial⟩, by simp, by simp, by simp⟩, trivial, hq.wf, trivial⟩
/-! ### networks that the law looks at -/
structure NetOk (m : Nat) (c : Procs) : Prop where
  valid : Valid m c
  small : Small c
  m62 : m ≤ 62
  step : ∀ p, p ∈ c → ∀ s, s ∈ p → StepOk (m + 2) s
theorem procs_mem : ∀ {seen : List Int} {c : Procs} {e : PR}, e ∈ procsS seen c → ∃ seen' p, p ∈ c ∧ e = whileR (stepsS seen' p)
  | _, [], e, h => by rw [procsS] at h; cases h
  | seen, y :: l, e, h => by
    rw [procsS] at h
    rcases List.mem_cons.1 h with rfl | h
    · exact ⟨_, y, List.mem_cons_self .., rfl⟩
    · obtain ⟨x, o, h1, h2⟩ := procs_mem h
      exact ⟨x, o, List.mem_cons_of_mem _ h1, h2⟩
theorem net_len {m : Nat} {c : Procs} (h : NetOk m c) : c.length ≤ 16 ∧ 1 ≤ c.length := by
  have := h.valid.g
  simp only [mayG, Bool.and_eq_true, decide_eq_true_eq] at this
  omega
theorem procs_sz {n : Nat} : ∀ {c : Procs} {seen : List Int}, (∀ p, p ∈ c → (∀ s, s ∈ p → StepOk n s) ∧ p.length ≤ 2048) → szL (procsS seen c) ≤ 2 * c.length + sizeN c
  | [], _, _ => by simp [procsS, szL]
  | p :: c, seen, h => by
    have hp := h p (List.mem_cons_self ..)
    have h1 := (while_fit (seen := seen) hp.1 hp.2).sz
    have h2 := procs_sz (c := c) (seen := seen ++ p.flatten) fun x hx => h x (List.mem_cons_of_mem _ hx)
    rw [procsS, szL, sizeN_cons, List.length_cons]; omega
theorem root_fit {m : Nat} {c : Procs} (h : NetOk m c) : Fit (m + 2) 2048 5 (rootB c) := by
  have hf : ∀ e, e ∈ procsS [] c → Fit (m + 2) 202 4 e := fun e he => by
    obtain ⟨seen, p, hp, rfl⟩ := procs_mem he
    have h70 := h.small.steps p hp
    have := while_fit (seen := seen) (h.step p hp) (by omega)
    have hz := sizeN_mem hp
    have hz2 := h.small.size
    exact ⟨this.ok, by have := this.sz; omega, this.ht, this.wf⟩
  have hl := procsS_len [] c
  have hn := net_len h
  have := seq_fit (k := 0) 10 (kind_par (n := m + 2) (l := procsS [] c) (by rw [hl]; exact hn.1)) (by decide) hf (by rw [hl]; omega)
  have hz := procs_sz (n := m + 2) (seen := []) fun p hp => ⟨h.step p hp, by have := h.small.steps p hp; omega⟩
  have hz2 := h.small.size
  exact ⟨this.ok, by rw [szR_eq]; show 1 + szL (procsS [] c) + szGs [] ≤ 2048; simp only [szGs]; omega, this.ht, this.wf⟩
theorem chans_len (m : Nat) : (1 :: 2 :: List.replicate m (0 : Int)).length = m + 2 := by simp
theorem okCh_zero : ∀ (m i : Nat), 2 ≤ i → okCh i (List.replicate m 0) = true
  | 0, _, _ => rfl
  | m + 1, i, h => by
    rw [List.replicate_succ, okCh, okCh_zero m (i + 1) (by omega), Bool.and_true, wantH, if_neg (by omega), if_neg (by omega)]; rfl
theorem built_may {m : Nat} {c : Procs} (h : NetOk m c) : mayK (builtK m c) = true := by
  have hf := root_fit h
  have h1 : lensK (builtK m c) = true := by
    simp only [lensK, builtK, Bool.and_eq_true, decide_eq_true_eq, chans_len]
    have := h.m62
    simp; omega
  have h2 : okCh 0 (builtK m c).chans = true := by
    show (true && okCh 1 (2 :: List.replicate m 0)) = true
    show (true && (true && okCh 2 (List.replicate m 0))) = true
    rw [okCh_zero m 2 (by omega)]; rfl
  have h3 : fitsR (builtK m c).vars (builtK m c).chans.length false (builtK m c).root 2048 32 := by
    unfold fitsR builtK
    simp only [chans_len]
    exact ⟨hf.ok, by have := hf.sz; omega, by have := hf.ht; omega⟩
  rw [mayK, h1, h2, decide_eq_true h3]
  rfl
theorem built_wf {m : Nat} {c : Procs} (h : NetOk m c) : WfN (builtK m c) where
  vars := by simp [builtK]
  chans := by show (1 :: 2 :: List.replicate m (0 : Int)).length ≤ _; rw [chans_len]; have := h.m62; omega
  procs := by simp [builtK]
  root := (root_fit h).wf
/-! ### its cyclic processes -/
def endsLL (seen : List Int) : List (List Int) → List (List PR)
  | [] => []
  | s :: r => endsS seen s :: endsLL (seen ++ s) r
theorem endsS_app : ∀ (seen a b : List Int), endsS seen (a ++ b) = endsS seen a ++ endsS (seen ++ a) b
  | seen, [], b => by simp [endsS]
  | seen, x :: a, b => by
    rw [List.cons_append, endsS, endsS, endsS_app (seen ++ [x]) a b]; simp
theorem endsLL_flat : ∀ (seen : List Int) (p : List (List Int)), (endsLL seen p).flatten = endsS seen p.flatten
  | seen, [] => by simp [endsLL, endsS]
  | seen, s :: p => by rw [endsLL, List.flatten_cons, List.flatten_cons, endsS_app, endsLL_flat (seen ++ s) p]
theorem end_ck (x : Int) (o : Bool) (h : 0 ≤ x) : badQ (endR (x + 2) o) = false ∧ (endR (x + 2) o).c = x + 2 ∧ (endR (x + 2) o).item = 1 ∧ ((endR (x + 2) o).kind == 6) = o ∧ (endR (x + 2) o).kind ≠ 10 := by
  cases o with
  | true => refine ⟨?_, rfl, rfl, rfl, fun h => absurd (show (6 : Int) = 10 from h) (by decide)⟩; show (false || decide (x + 2 < 2)) = false; rw [Bool.false_or]; exact decide_eq_false (by omega)
  | false => refine ⟨?_, rfl, rfl, rfl, fun h => absurd (show (5 : Int) = 10 from h) (by decide)⟩; show (false || decide (x + 2 < 2)) = false; rw [Bool.false_or]; exact decide_eq_false (by omega)
theorem single_par {n : Nat} {seen s : List Int} (h : StepOk n s) : singleP (parR (endsS seen s)) = endsS seen s := by
  have hb : ∀ e, e ∈ endsS seen s → badQ e = false ∧ e.kind ≠ 10 := fun e he => by
    obtain ⟨x, o, hx, rfl⟩ := ends_mem he
    have := end_ck x o (h.rng x hx).1
    exact ⟨this.1, this.2.2.2.2⟩
  have key : stepL (parR (endsS seen s)) = endsS seen s := by
    unfold parR
    split
    · rename_i x hx
      rw [stepL, if_neg (hb x (by rw [hx]; exact List.mem_cons_self ..)).2, hx]
    · rfl
  rw [singleP, key, if_neg]
  intro hh
  obtain ⟨e, he, hb'⟩ := List.any_eq_true.1 hh
  rw [(hb e he).1] at hb'; cases hb'
theorem end_safe (x : Int) (o : Bool) : safeB vB (endR x o) = true := by
  cases o with
  | true => rw [endR, if_pos rfl]; show safeK ⟨2, 0, 0, 0, 0, []⟩ = true; decide
  | false => rw [endR, if_neg (by decide)]; rfl
theorem steps_single {n : Nat} : ∀ {p : List (List Int)} {seen : List Int}, (∀ s, s ∈ p → StepOk n s) → (stepsS seen p).map singleP = endsLL seen p
  | [], _, _ => by rw [stepsS]; rfl
  | s :: p, seen, h => by
    rw [stepsS, List.map_cons, endsLL, single_par (h s (List.mem_cons_self ..)), steps_single fun x hx => h x (List.mem_cons_of_mem _ hx)]
theorem cyc_while {m n : Nat} {c0 : Procs} {seen : List Int} {p : List (List Int)} (h : ∀ s, s ∈ p → StepOk n s) : cycP (builtK m c0) (whileR (stepsS seen p)) = endsLL seen p := by
  have hl : lastR (whileR (stepsS seen p)) = whileR (stepsS seen p) := lastR_no rfl
  have hs : stepsW (whileR (stepsS seen p)) = stepsS seen p := rfl
  have hg : (stepsS seen p).all (goodS (builtK m c0)) = true := by
    rw [List.all_eq_true]
    intro e he
    obtain ⟨seen', s, hs, rfl⟩ := steps_mem (n := n) he
    rw [goodS, single_par (h s hs)]
    have hne : endsS seen' s ≠ [] := fun e => by
      have := congrArg List.length e
      rw [endsS_len] at this
      exact (h s hs).ne (List.length_eq_zero_iff.1 this)
    have h1 : (endsS seen' s).isEmpty = false := by
      cases hh : endsS seen' s with
      | nil => exact (hne hh).elim
      | cons a b => rfl
    rw [h1]
    show (true && (endsS seen' s).all (safeB vB)) = true
    rw [Bool.true_and, List.all_eq_true]
    intro e he
    obtain ⟨x, o, _, rfl⟩ := ends_mem he
    exact end_safe _ o
  rw [cycP, hl, cycW, hs, if_pos ⟨rfl, rfl, hg⟩, steps_single h]
theorem ends_c : ∀ {seen l : List Int}, (endsS seen l).map (·.c) = l.map (· + 2)
  | _, [] => by rw [endsS]; rfl
  | seen, x :: l => by
    rw [endsS, List.map_cons, List.map_cons, ends_c]
    cases (!seen.contains x) <;> rfl
theorem endsLL_c : ∀ {seen : List Int} {p : List (List Int)}, (endsLL seen p).map (·.map (·.c)) = upP p
  | _, [] => rfl
  | seen, s :: p => by rw [endsLL, List.map_cons, ends_c, endsLL_c]; rfl
theorem net_up {m : Nat} {c0 : Procs} : ∀ {c : Procs} {seen : List Int}, (∀ p, p ∈ c → ∀ s, s ∈ p → StepOk (m + 2) s) → (procsS seen c).map (procC (builtK m c0)) = upC c
  | [], _, _ => by rw [procsS]; rfl
  | p :: c, seen, h => by
    rw [procsS, List.map_cons, net_up fun x hx => h x (List.mem_cons_of_mem _ hx), procC, cyc_while (h p (List.mem_cons_self ..)), endsLL_c]; rfl
/-! ### its ends -/
def endE (i : Nat) (x : Int) (o : Bool) : EN := ⟨i, x + 2, o, 1⟩
theorem flt_one (i : Nat) (x : Int) : ∀ (l seen : List Int), (∀ y, y ∈ l → 0 ≤ y) → l.count x ≤ 1 → ((endsS seen l).map (endOf i)).filter (fun e => e.c == x + 2) = if l.count x = 1 then [endE i x (!seen.contains x)] else []
  | [], seen, _, _ => by simp [endsS]
  | y :: l, seen, h0, hc => by
    have hy := h0 y (List.mem_cons_self ..)
    have he : endOf i (endR (y + 2) (!seen.contains y)) = endE i y (!seen.contains y) := by
      have := end_ck y (!seen.contains y) hy
      rw [endOf, endE, this.2.1, this.2.2.1, this.2.2.2.1]
    rw [List.count_cons] at hc ⊢
    have ih := flt_one i x l (seen ++ [y]) (fun z hz => h0 z (List.mem_cons_of_mem _ hz)) (by omega)
    rw [endsS, List.map_cons, List.filter_cons, he, ih]
    by_cases hyx : y = x
    · subst hyx
      have h0c : l.count y = 0 := by simp at hc; omega
      simp [endE, h0c]
    · have h1 : (y == x) = false := beq_eq_false_iff_ne.2 hyx
      have h2 : ((endE i y (!seen.contains y)).c == x + 2) = false := beq_eq_false_iff_ne.2 (by show y + 2 ≠ x + 2; omega)
      have h3 : ¬ x = y := fun e => hyx e.symm
      rw [h1, h2]
      simp [h3]
def cInt (E : List EN) (x : Int) : List EN := E.filter fun e => e.c == x + 2
theorem rest_cons {m : Nat} {c0 : Procs} {p : List (List Int)} {c : Procs} {seen : List Int} {i : Nat} (x : Int) (h : ∀ s, s ∈ p → StepOk (m + 2) s) (hf : FineP m p) :
    cInt (restE (builtK m c0) i (procsS seen (p :: c))) x = (if p.flatten.count x = 1 then [endE i x (!seen.contains x)] else []) ++ cInt (restE (builtK m c0) (i + 1) (procsS (seen ++ p.flatten) c)) x := by
  have hcle : p.flatten.count x ≤ 1 := by
    by_cases hx : x ∈ p.flatten
    · exact hf.nd x hx
    · rw [List.count_eq_zero_of_not_mem hx]; omega
  have h1 := flt_one i x p.flatten seen (fun y hy => (hf.rng y hy).1) hcle
  rw [procsS, restE, cInt, List.filter_append, endsP, cyc_while h, ← List.map_flatten, endsLL_flat, h1]
  rfl
theorem ends_0 {m : Nat} {c0 : Procs} (x : Int) : ∀ {c : Procs} {seen : List Int} {i : Nat}, (∀ p, p ∈ c → (∀ s, s ∈ p → StepOk (m + 2) s) ∧ FineP m p) → useN c x = 0 → cInt (restE (builtK m c0) i (procsS seen c)) x = []
  | [], _, _, _, _ => by rw [procsS, restE]; rfl
  | p :: c, seen, i, h, hu => by
    have hp := h p (List.mem_cons_self ..)
    rw [useN_cons] at hu
    rw [rest_cons x hp.1 hp.2, ends_0 x (fun q hq => h q (List.mem_cons_of_mem _ hq)) (by omega), if_neg (by omega)]; rfl
theorem ends_1 {m : Nat} {c0 : Procs} (x : Int) : ∀ {c : Procs} {seen : List Int} {i : Nat}, (∀ p, p ∈ c → (∀ s, s ∈ p → StepOk (m + 2) s) ∧ FineP m p) → useN c x = 1 → seen.contains x = true → ∃ j, i ≤ j ∧ cInt (restE (builtK m c0) i (procsS seen c)) x = [endE j x false]
  | [], _, _, _, hu, _ => by simp [useN] at hu
  | p :: c, seen, i, h, hu, hs => by
    have hp := h p (List.mem_cons_self ..)
    have hr := fun q hq => h q (List.mem_cons_of_mem _ hq)
    rw [useN_cons] at hu
    rw [rest_cons x hp.1 hp.2]
    by_cases h1 : p.flatten.count x = 1
    · refine ⟨i, Nat.le_refl _, ?_⟩
      rw [if_pos h1, ends_0 x hr (by omega), hs]; rfl
    · have h0 : p.flatten.count x = 0 := by omega
      obtain ⟨j, hj, he⟩ := ends_1 (m := m) (c0 := c0) x (seen := seen ++ p.flatten) (i := i + 1) hr (by omega) (by simp at hs ⊢; exact .inl hs)
      exact ⟨j, by omega, by rw [if_neg h1, he]; rfl⟩
theorem ends_2 {m : Nat} {c0 : Procs} (x : Int) : ∀ {c : Procs} {seen : List Int} {i : Nat}, (∀ p, p ∈ c → (∀ s, s ∈ p → StepOk (m + 2) s) ∧ FineP m p) → useN c x = 2 → seen.contains x = false → ∃ j1 j2, j1 < j2 ∧ cInt (restE (builtK m c0) i (procsS seen c)) x = [endE j1 x true, endE j2 x false]
  | [], _, _, _, hu, _ => by simp [useN] at hu
  | p :: c, seen, i, h, hu, hs => by
    have hp := h p (List.mem_cons_self ..)
    have hr := fun q hq => h q (List.mem_cons_of_mem _ hq)
    rw [useN_cons] at hu
    rw [rest_cons x hp.1 hp.2]
    by_cases hx : x ∈ p.flatten
    · have hn := hp.2.nd x hx
      have h0 : 0 < p.flatten.count x := List.count_pos_iff.2 hx
      have h1 : p.flatten.count x = 1 := by omega
      obtain ⟨j, hj, he⟩ := ends_1 (m := m) (c0 := c0) x (seen := seen ++ p.flatten) (i := i + 1) hr (by omega) (by rw [List.contains_iff_mem]; exact List.mem_append_right _ hx)
      exact ⟨i, j, by omega, by rw [if_pos h1, he, hs]; rfl⟩
    · have h0 : p.flatten.count x = 0 := List.count_eq_zero_of_not_mem hx
      obtain ⟨j1, j2, hj, he⟩ := ends_2 (m := m) (c0 := c0) x (seen := seen ++ p.flatten) (i := i + 1) hr (by omega) (by
        rw [Bool.eq_false_iff, ne_eq, List.contains_iff_mem] at hs ⊢
        intro hh
        rcases List.mem_append.1 hh with h | h
        · exact hs h
        · exact hx h)
      exact ⟨j1, j2, hj, by rw [if_neg (by omega), he]; rfl⟩
theorem use_neg {m : Nat} : ∀ {c : Procs} {x : Int}, (∀ p, p ∈ c → FineP m p) → x < 0 → useN c x = 0
  | [], _, _, _ => rfl
  | p :: c, x, h, hx => by
    rw [useN_cons, use_neg (fun q hq => h q (List.mem_cons_of_mem _ hq)) hx, List.count_eq_zero_of_not_mem]
    intro hm
    have := ((h p (List.mem_cons_self ..)).rng x hm).1
    omega
theorem built_pairs {m : Nat} {c : Procs} (h : NetOk m c) : pairsB (restE (builtK m c) 0 (procsS [] c)) = true := by
  rw [pairsB, List.all_eq_true]
  intro k hk
  have hk := List.mem_range.1 hk
  have hall : ∀ p, p ∈ c → (∀ s, s ∈ p → StepOk (m + 2) s) ∧ FineP m p := fun p hp => ⟨h.step p hp, h.valid.fine p hp⟩
  have hc : onC (restE (builtK m c) 0 (procsS [] c)) k = cInt (restE (builtK m c) 0 (procsS [] c)) ((k : Int) - 2) := by
    rw [onC, cInt, show (k : Int) - 2 + 2 = k by omega]
  have hu : useN c ((k : Int) - 2) = 0 ∨ useN c ((k : Int) - 2) = 2 := by
    by_cases h2 : k < 2
    · exact .inl (use_neg h.valid.fine (by omega))
    · have := h.valid.two (k - 2) (by omega)
      rwa [show (((k - 2 : Nat)) : Int) = (k : Int) - 2 by omega] at this
  rw [hc]
  rcases hu with hu | hu
  · rw [ends_0 _ hall hu]; rfl
  · obtain ⟨j1, j2, hj, he⟩ := ends_2 (c0 := c) ((k : Int) - 2) (seen := []) (i := 0) hall hu rfl
    rw [he]
    show fitE _ _ = true
    have : ((j1 : Int) != (j2 : Int)) = true := by rw [bne, beq_eq_false_iff_ne.2 (by omega)]; rfl
    simp only [fitE, endE, this]; rfl
/-! ### the network, two higher -/
theorem cnt_up (y : Int) : ∀ l : List Int, (l.map (· + 2)).count y = l.count (y - 2)
  | [] => rfl
  | x :: l => by
    rw [List.map_cons, List.count_cons, List.count_cons, cnt_up y l]
    by_cases h : x = y - 2
    · rw [if_pos (by simp [h]), if_pos (by simp [h])]
    · rw [if_neg (by simp; omega), if_neg (by simpa using h)]
theorem up_flat (p : List (List Int)) : (upP p).flatten = p.flatten.map (· + 2) := by
  rw [upP, List.map_flatten]; rfl
theorem use_up (c : Procs) (y : Int) : useN (upC c) y = useN c (y - 2) := by
  induction c with
  | nil => rfl
  | cons p c ih => rw [show upC (p :: c) = upP p :: upC c from rfl, useN_cons, useN_cons, ih, up_flat, cnt_up]
theorem size_up (c : Procs) : sizeN (upC c) = sizeN c := by
  induction c with
  | nil => rfl
  | cons p c ih =>
    rw [show upC (p :: c) = upP p :: upC c from rfl, sizeN_cons, sizeN_cons, ih]
    congr 1
    induction p with
    | nil => rfl
    | cons s p ihp => rw [show upP (s :: p) = up2 s :: upP p from rfl, sizeP_cons, sizeP_cons, ihp, up2, List.length_map]
theorem up_may {m : Nat} {c : Procs} (h : NetOk m c) : nmayB ((m + 2 : Nat) : Int) (upC c) = true := by
  rw [mayB_iff (by rw [size_up]; have := h.small.size; omega)]
  refine ⟨?_, fun p hp => ?_, fun i hi => ?_⟩
  · have := h.valid.g
    have h62 := h.m62
    simp only [mayG, Bool.and_eq_true, decide_eq_true_eq, upC, List.length_map] at this ⊢
    omega
  · obtain ⟨q, hq, rfl⟩ := List.mem_map.1 hp
    have hf := h.valid.fine q hq
    refine ⟨fun e => hf.ne (List.map_eq_nil_iff.1 e), fun s hs => ?_, fun x hx => ?_, fun x hx => ?_⟩
    · obtain ⟨t, ht, rfl⟩ := List.mem_map.1 hs
      exact fun e => hf.nes t ht (List.map_eq_nil_iff.1 e)
    · rw [up_flat] at hx
      obtain ⟨y, hy, rfl⟩ := List.mem_map.1 hx
      have := hf.rng y hy
      omega
    · rw [up_flat] at hx ⊢
      obtain ⟨y, hy, rfl⟩ := List.mem_map.1 hx
      rw [cnt_up, show y + 2 - 2 = y by omega]
      exact hf.nd y hy
  · rw [use_up]
    by_cases h2 : i < 2
    · exact .inl (use_neg h.valid.fine (by omega))
    · have := h.valid.two (i - 2) (by omega)
      rwa [show (((i - 2 : Nat)) : Int) = (i : Int) - 2 by omega] at this
theorem built_class {m : Nat} {c : Procs} (h : NetOk m c) : (mayK (builtK m c) && (lastR (builtK m c).root).kind == 10 && classB (builtK m c) (lastR (builtK m c).root)) = true ∧ netC (builtK m c) (lastR (builtK m c).root) = upC c ∧ (builtK m c).chans.length = m + 2 := by
  have hl : lastR (builtK m c).root = rootB c := lastR_no rfl
  have hn : netC (builtK m c) (rootB c) = upC c := net_up h.step
  have hch : (builtK m c).chans.length = m + 2 := chans_len m
  refine ⟨?_, by rw [hl, hn], hch⟩
  rw [hl, built_may h, classB, hn, hch, up_may h]
  have := built_pairs h
  show (true && true && (pairsB (restE (builtK m c) 0 (procsS [] c)) && true)) = true
  rw [this]; rfl
end Go.Proofs.YtgmeahcclogfmaaDoor
/-!
  Chapter 23: Rank of the program.
-/
namespace Go.Proofs.YtgmeahcclogfmaaDoor
open Go Go.Tp
set_option linter.unusedVariables false
set_option linter.unusedSimpArgs false
set_option maxRecDepth 100000
set_option maxHeartbeats 4000000
def rankR (n : Int) (c : Procs) : List Int × Int := if nmayB n c = true then (match kahn (beforeF c) n.toNat with
  | some rk => ((List.range n.toNat).map rk, 0)
  | none => ([], 230)) else ([], 2)
abbrev rankA (p : List Int × Int) : AV := .tp [rowI p.1, AI p.2]
theorem rankR_no {n : Int} {c : Procs} (h : nmayB n c = false) : rankR n c = ([], 2) := by rw [rankR, h]; rfl
theorem rankR_some {m : Nat} {c : Procs} (h : nmayB m c = true) {rk : Rk} (hk : kahn (beforeF c) m = some rk) : rankR m c = ((List.range m).map rk, 0) := by
  rw [rankR, if_pos h, Int.toNat_natCast, hk]
theorem rankR_none {m : Nat} {c : Procs} (h : nmayB m c = true) (hk : kahn (beforeF c) m = none) : rankR m c = ([], 230) := by
  rw [rankR, if_pos h, Int.toNat_natCast, hk]
abbrev rkA (m : Nat) (rk : Rk) : List AV := (List.range m).map fun i => AI (rk i)
theorem rkA_len (m : Nat) (rk : Rk) : (rkA m rk).length = m := by rw [List.length_map, List.length_range]
theorem row_rkA (m : Nat) (rk : Rk) : rowI ((List.range m).map rk) = .sl 1 (rkA m rk) none := by
  show AV.sl 1 (((List.range m).map rk).map AI) none = _
  rw [List.map_map]; rfl
theorem foldR_succ {α : Type} (f : α → Nat → α) (a : α) (m : Nat) : (List.range (m + 1)).foldl f a = f ((List.range m).foldl f a) m := by
  rw [List.range_succ, List.foldl_append]; rfl
theorem gt_max (a b : Int) : (if b > a then b else a) = max a b := by rw [Int.max_def]; split <;> split <;> omega
theorem rank_p (n : Int) (c : Procs) (hs : ShortN c) (hz : sizeN c ≤ 1000) : Pure Tryd.prog gs0 12 [netA n c] (rankA (rankR n c)) := by
  have hmay := nmay_p n c hs
  cases hm : nmayB n c with
  | false =>
    rw [hm] at hmay
    refine Pure.of (S := tt) (fn := Tryd.f12) (n := 83) tt_ok Tryd.func12 rfl rfl rfl rfl fun w0 h0 F hgs => ?_
    (repeat first|refine A.s rfl ?_|refine A.r rfl rfl ?_|refine A.b rfl fun bx=>?_)
    refine A.c rfl hmay .refl ?_
    (repeat refine A.s rfl ?_); refine A.ret2 (Λ' := []) rfl rfl rfl rfl (List.nil_sublist _) ⟨?_, rfl⟩; rw [rankR_no hm]; exact .tp (.cons .nil (.cons .refl .nil))
  | true =>
  rw [hm] at hmay
  have hv := (mayB_iff hz).1 hm
  have hin := hv.inB
  have hn := mayG_n hv.g
  have hbef := before_p n c hs hin
  obtain ⟨m, rfl⟩ : ∃ m : Nat, n = m := ⟨n.toNat, by omega⟩
  have hm64 : m ≤ 64 := by omega
  generalize hsd : beforeF c = s at hbef
  refine Pure.of (S := tt) (fn := Tryd.f12) (n := 83) tt_ok Tryd.func12 rfl rfl rfl rfl fun w0 h0 F hgs => ?_
  (repeat first|refine A.s rfl ?_|refine A.r rfl rfl ?_|refine A.b rfl fun bx=>?_)
  refine A.c rfl hmay .refl ?_
  (repeat first|refine A.s rfl ?_|refine A.r rfl rfl ?_)
  refine A.c rfl hbef .refl ?_
  (repeat refine A.s rfl ?_)
  refine A.b rfl fun b1 => ?_
  refine A.headEq (.ag (setL fun _ => 0)) (by kernel_rfl) ?_
  refine A.wl rfl (set_one _) (arr_len _) (arr_len _) ?_
  (repeat first|refine A.s rfl ?_|refine A.r rfl rfl ?_)
  refine A.makeV rfl rfl rfl rfl rfl rfl rfl rfl rfl rfl rfl rfl (by omega) ?_ (by omega) fun a cp hca => ?_
  · show (8 : Int) * _ ≤ _; omega
  (repeat first|refine A.s rfl ?_|refine A.r rfl rfl ?_)
  refine A.valE 6 rfl (x' := U64 0) rfl ?_
  refine A.entsEq (Λ' := [.row 1 (.slice a m cp) (rkA m fun _ => 0), .box b1 (.ag (setL s)), .box _ (.ag [AI m, procsA c])]) (by rw [rkA, List.map_const', List.length_range]; rfl) ?_
  refine A.keep [1, 4, 5, 6, 7] rfl ?_
  refine A.loopP (ι := Rk × W64 × Int × Nat) (fun q => (⟨[(1, .v (.pointer (some ⟨_, 0, none⟩))), (4, .v (.pointer (some ⟨b1, 0, none⟩))), (5, .ms (.slice a m cp) 1 m), (6, U64 q.2.1), (7, AI q.2.2.1)], []⟩, [.row 1 (.slice a m cp) (rkA m q.1), .box b1 (.ag (setL s)), .box _ (.ag [AI m, procsA c])]))
    (fun q => kahnR s m q.2.2.2 q.1 q.2.1 q.2.2.1 = kahn s m ∧ q.2.2.1 ≤ q.2.2.2 ∧ -64 ≤ q.2.2.1 ∧ q.2.2.1 ≤ 64) (fun q => q.2.2.2) (fun _ => 0, 0, (m : Int), m) ⟨rfl, by simp only; omega, by simp only; omega, by simp only; omega⟩ rfl fun q hi ih => ?_
  obtain ⟨rk, done, left, f⟩ := q
  simp only at hi ih ⊢
  (repeat refine A.s rfl ?_)
  refine A.cond rfl (fun hc => ?_) (fun hc => ?_)
  · simp at hc
    have hl := hc
    obtain ⟨f', rfl⟩ : ∃ f', f = f' + 1 := ⟨f - 1, by omega⟩
    have h1 := hi.1
    rw [kahnR, if_neg (by omega)] at h1
    (repeat refine A.s rfl ?_)
    refine A.valE 26 rfl (x' := AI (m : Nat)) rfl ?_
    refine A.valE 9 rfl (x' := U64 0) rfl ?_
    refine A.keep [1, 4, 5, 6, 7, 8, 9, 26, 27] rfl ?_
    refine A.loopP (ι := Nat) (fun x => (⟨[(1, .v (.pointer (some ⟨_, 0, none⟩))), (4, .v (.pointer (some ⟨b1, 0, none⟩))), (5, .ms (.slice a m cp) 1 m), (6, U64 done), (7, AI (rkXs s m done rk left x).2.2), (8, AI left), (9, U64 (rkXs s m done rk left x).2.1), (26, AI (m : Nat)), (27, AI (x : Nat))], []⟩, [.row 1 (.slice a m cp) (rkA m (rkXs s m done rk left x).1), .box b1 (.ag (setL s)), .box _ (.ag [AI m, procsA c])]))
      (fun x => x ≤ m) (fun x => m - x) 0 (by omega) rfl fun x hx xh => ?_
    have hrl := rkXs_left s m done rk left x
    have hsu := rkXs_succ s m done rk left x
    (repeat refine A.s rfl ?_)
    refine A.cond rfl (fun hc => ?_) (fun hc => ?_)
    · simp at hc
      have hxm : x < m := by omega
      have hx64 : x < 64 := by omega
      rw [rkX] at hsu
      (repeat refine A.s rfl ?_)
      refine A.shift rfl rfl rfl rfl rfl rfl (by omega) ?_
      refine A.valE 32 rfl (x' := U64 (done >>> x)) (u64_eq (ushr _ _ hx64)) ?_
      (repeat refine A.s rfl ?_)
      refine A.valE 35 rfl (x' := AB (done.getLsbD x)) (ab_eq (bit1 _ x)) ?_
      ((fail_if_success (refine A.lit? rfl ?_)); refine A.gS rfl (fun hc => ?_) (fun hc => ?_))
      · have hr : rdy s done x = false := by rw [rdy, hc]; rfl
        rw [hr] at hsu
        (repeat refine A.s rfl ?_)
        refine A.valE 27 rfl (x' := AI ((x + 1 : Nat) : Int)) (inc_eq x (by omega)) ?_
        refine A.valE 7 rfl (x' := AI (rkXs s m done rk left (x + 1)).2.2) (by rw [hsu]; rfl) ?_
        refine A.valE 9 rfl (x' := U64 (rkXs s m done rk left (x + 1)).2.1) (by rw [hsu]; rfl) ?_
        refine A.entsEq (Λ' := [.row 1 (.slice a m cp) (rkA m (rkXs s m done rk left (x + 1)).1), .box b1 (.ag (setL s)), .box _ (.ag [AI m, procsA c])]) (by rw [hsu]; rfl) ?_
        refine A.sub (by repeat (first | exact trivial | refine ⟨⟨_, rfl, .refl⟩, ?_⟩)) (xh (x + 1) (by omega) (by omega))
      have hdx := hc
      (repeat refine A.s rfl ?_)
      refine A.xa rfl (p := x) (by omega) (by omega) (off1 x) rfl ?_
      refine A.ra rfl (range_at _ hx64) rfl ?_
      (repeat refine A.s rfl ?_)
      refine A.valE 42 rfl (x' := AB (!rdy s done x)) (ab_eq ?_) ?_
      · rw [uandn, rdy, hdx, Bool.eq_iff_iff]
        simp only [Bool.false_or, Bool.not_not, bne_iff_ne, ne_eq, Bool.cond_false]
        apply not_congr
        constructor
        · intro h; exact BitVec.eq_of_toNat_eq (by have h : ((s x &&& ~~~done).toNat : Int) = 0 := h; rw [show (0 : W64).toNat = 0 from rfl]; omega)
        · intro h; rw [h]; rfl
      refine A.cond rfl (fun hc => ?_) (fun hc => ?_)
      · have hr : rdy s done x = false := by simpa using hc
        rw [hr] at hsu
        (repeat refine A.s rfl ?_)
        refine A.valE 27 rfl (x' := AI ((x + 1 : Nat) : Int)) (inc_eq x (by omega)) ?_
        refine A.valE 7 rfl (x' := AI (rkXs s m done rk left (x + 1)).2.2) (by rw [hsu]; rfl) ?_
        refine A.valE 9 rfl (x' := U64 (rkXs s m done rk left (x + 1)).2.1) (by rw [hsu]; rfl) ?_
        refine A.entsEq (Λ' := [.row 1 (.slice a m cp) (rkA m (rkXs s m done rk left (x + 1)).1), .box b1 (.ag (setL s)), .box _ (.ag [AI m, procsA c])]) (by rw [hsu]; rfl) ?_
        refine A.sub (by repeat (first | exact trivial | refine ⟨⟨_, rfl, .refl⟩, ?_⟩)) (xh (x + 1) (by omega) (by omega))
      have hr : rdy s done x = true := by simpa using hc
      rw [hr, if_pos rfl] at hsu
      (repeat refine A.s rfl ?_)
      refine A.valE 44 rfl (x' := AI (m : Nat)) rfl ?_
      refine A.keep [1, 4, 5, 6, 7, 8, 9, 10, 26, 27, 44, 45] rfl ?_
      refine A.loopP (ι := Nat) (fun d => (⟨[(1, .v (.pointer (some ⟨_, 0, none⟩))), (4, .v (.pointer (some ⟨b1, 0, none⟩))), (5, .ms (.slice a m cp) 1 m), (6, U64 done), (7, AI (rkXs s m done rk left x).2.2), (8, AI left), (9, U64 (rkXs s m done rk left x).2.1), (10, AI (x : Nat)), (26, AI (m : Nat)), (27, AI (x : Nat)), (44, AI (m : Nat)), (45, AI (d : Nat))], []⟩, [.row 1 (.slice a m cp) (rkA m ((List.range d).foldl (rkD s x) (rkXs s m done rk left x).1)), .box b1 (.ag (setL s)), .box _ (.ag [AI m, procsA c])]))
        (fun d => d ≤ m) (fun d => m - d) 0 (by omega) rfl fun d hd dh => ?_
      have hds := foldR_succ (rkD s x) (rkXs s m done rk left x).1 d
      (repeat refine A.s rfl ?_)
      refine A.cond rfl (fun hc => ?_) (fun hc => ?_)
      · simp at hc
        have hdm : d < m := by omega
        have hd64 : d < 64 := by omega
        rw [rkD] at hds
        (repeat refine A.s rfl ?_)
        refine A.xa rfl (p := x) (by omega) (by omega) (off1 x) rfl ?_
        refine A.ra rfl (range_at _ hx64) rfl ?_
        (repeat refine A.s rfl ?_)
        refine A.shift rfl rfl rfl rfl rfl rfl (by omega) ?_
        refine A.valE 52 rfl (x' := U64 (s x >>> d)) (u64_eq (ushr _ _ hd64)) ?_
        (repeat refine A.s rfl ?_)
        refine A.valE 54 rfl (x' := AB ((s x).getLsbD d)) (ab_eq (bit1 _ d)) ?_
        refine A.cond rfl (fun hc => ?_) (fun hc => ?_)
        · rw [hc, if_pos rfl] at hds
          refine A.draw 12 [0, 1, 2, 3, 4, 5, 6, 7, 8, 9, 10, 11] noPubs [] (by kernel_rfl) (by kernel_rfl) ?_
          (repeat refine WA.s rfl ?_)
          refine WA.indexRow rfl rfl rfl rfl rfl rfl rfl rfl rfl (by omega) (by rw [rkA_len]; omega) rfl ?_
          refine WA.loadRow rfl rfl rfl rfl rfl rfl rfl (y' := AI _) rfl (range_at _ hxm) rfl rfl ?_
          (repeat refine WA.s rfl ?_)
          refine WA.indexRow rfl rfl rfl rfl rfl rfl rfl rfl rfl (by omega) (by rw [rkA_len]; omega) rfl ?_
          refine WA.loadRow rfl rfl rfl rfl rfl rfl rfl (y' := AI _) rfl (range_at _ hdm) rfl rfl ?_
          (repeat refine WA.s rfl ?_)
          refine WA.nil (l := []) rfl ?_
          skip
          refine A.indexRow rfl rfl rfl rfl rfl rfl rfl rfl (by omega) (by rw [rkA_len]; omega) rfl ?_
          refine A.valE 66 rfl (x' := AI (max (((List.range d).foldl (rkD s x) (rkXs s m done rk left x).1) x) (w64 (((List.range d).foldl (rkD s x) (rkXs s m done rk left x).1) d + 1)))) (ai_eq ?_) ?_
          · exact gt_max _ _
          refine A.storeRow rfl rfl rfl rfl rfl rfl rfl rfl rfl (by rw [rkA_len]; exact hxm) (xs' := rkA m ((List.range (d + 1)).foldl (rkD s x) (rkXs s m done rk left x).1)) (by rw [hds]; exact range_set AI _ x _) ?_
          (repeat refine A.s rfl ?_)
          refine A.valE 45 rfl (x' := AI ((d + 1 : Nat) : Int)) (inc_eq d (by omega)) ?_
          refine A.sub (by repeat (first | exact trivial | refine ⟨⟨_, rfl, .refl⟩, ?_⟩)) (dh (d + 1) (by omega) (by omega))
        · rw [hc, if_neg (by simp)] at hds
          (repeat refine A.s rfl ?_)
          refine A.entsEq (Λ' := [.row 1 (.slice a m cp) (rkA m ((List.range (d + 1)).foldl (rkD s x) (rkXs s m done rk left x).1)), .box b1 (.ag (setL s)), .box _ (.ag [AI m, procsA c])]) (by rw [hds]) ?_
          refine A.valE 45 rfl (x' := AI ((d + 1 : Nat) : Int)) (inc_eq d (by omega)) ?_
          refine A.sub (by repeat (first | exact trivial | refine ⟨⟨_, rfl, .refl⟩, ?_⟩)) (dh (d + 1) (by omega) (by omega))
      · simp at hc
        have hdl : d = m := by omega
        subst hdl
        (repeat refine A.s rfl ?_)
        refine A.shift rfl rfl rfl rfl rfl rfl (by omega) ?_
        (repeat refine A.s rfl ?_)
        refine A.valE 27 rfl (x' := AI ((x + 1 : Nat) : Int)) (inc_eq x (by omega)) ?_
        refine A.valE 7 rfl (x' := AI (rkXs s d done rk left (x + 1)).2.2) (ai_eq (by rw [hsu]; simp only; exact w64_id (by unfold i64; omega))) ?_
        refine A.valE 9 rfl (x' := U64 (rkXs s d done rk left (x + 1)).2.1) (u64_eq (by rw [ushl x hx64, uor, hsu])) ?_
        refine A.entsEq (Λ' := [.row 1 (.slice a d cp) (rkA d (rkXs s d done rk left (x + 1)).1), .box b1 (.ag (setL s)), .box _ (.ag [AI d, procsA c])]) (by rw [hsu]) ?_
        refine A.sub (by repeat (first | exact trivial | refine ⟨⟨_, rfl, .refl⟩, ?_⟩)) (xh (x + 1) (by omega) (by omega))
    · simp at hc
      have hxl : x = m := by omega
      subst hxl
      (repeat refine A.s rfl ?_)
      refine A.valE 6 rfl (x' := U64 (done ||| (rkXs s x done rk left x).2.1)) (u64_eq (uor _ _)) ?_
      refine A.valE 81 rfl (x' := AB (decide ((rkXs s x done rk left x).2.2 = left))) (ab_eq (by rw [Bool.eq_iff_iff]; simp)) ?_
      refine A.cond rfl (fun hc => ?_) (fun hc => ?_)
      · simp at hc
        rw [if_pos hc] at h1
        (repeat refine A.s rfl ?_); refine A.ret2 (Λ' := []) rfl rfl rfl rfl (List.nil_sublist _) ⟨?_, rfl⟩
        rw [rankR_none hm (by rw [hsd]; exact h1.symm)]
        exact .tp (.cons .nil (.cons .refl .nil))
      · simp at hc
        rw [if_neg hc] at h1
        (repeat refine A.s rfl ?_)
        refine A.sub (by repeat (first | exact trivial | refine ⟨⟨_, rfl, .refl⟩, ?_⟩)) (ih ((rkXs s x done rk left x).1, done ||| (rkXs s x done rk left x).2.1, (rkXs s x done rk left x).2.2, f') ⟨h1, by simp only; omega, by simp only; omega, by simp only; omega⟩ (by simp only; omega))
  · simp at hc
    have h1 : kahn s m = some rk := by
      rw [← hi.1]
      cases f with
      | zero => rfl
      | succ f => rw [kahnR, if_pos (by omega)]
    refine A.freezeRow 5 rfl ?_
    (repeat refine A.s rfl ?_); refine A.ret2 (Λ' := []) rfl rfl rfl rfl (List.nil_sublist _) ⟨?_, rfl⟩
    rw [rankR_some hm (by rw [hsd]; exact h1)]
    show Sb (.tp [_, _]) (.tp [rowI _, AI 0])
    rw [row_rkA]; exact .refl
end Go.Proofs.YtgmeahcclogfmaaDoor
/-!
  Chapter 23: Cycle of the program.
-/
namespace Go.Proofs.YtgmeahcclogfmaaDoor
open Go Go.Tp
set_option linter.unusedVariables false
set_option linter.unusedSimpArgs false
set_option maxRecDepth 100000
set_option maxHeartbeats 4000000
def cycR1 (n : Int) (c : Procs) : List Int × Bool := if nmayB n c = true then (match cycV (beforeF c) n.toNat with
  | some l => (l.map fun d : Nat => (d : Int), true)
  | none => ([], false)) else ([], false)
abbrev cycA (p : List Int × Bool) : AV := .tp [rowI p.1, AB p.2]
theorem cycR1_no {n : Int} {c : Procs} (h : nmayB n c = false) : cycR1 n c = ([], false) := by rw [cycR1, h]; rfl
theorem cycR1_some {m : Nat} {c : Procs} (h : nmayB m c = true) {l : List Nat} (hk : cycV (beforeF c) m = some l) : cycR1 m c = (l.map fun d : Nat => (d : Int), true) := by
  rw [cycR1, if_pos h, Int.toNat_natCast, hk]
theorem cycR1_none {m : Nat} {c : Procs} (h : nmayB m c = true) (hk : cycV (beforeF c) m = none) : cycR1 m c = ([], false) := by
  rw [cycR1, if_pos h, Int.toNat_natCast, hk]
abbrev natsA (l : List Nat) : List AV := l.map fun d : Nat => AI (d : Int)
theorem natsA_row (l : List Nat) : rowI (l.map fun d : Nat => (d : Int)) = .sl 1 (natsA l) none := by
  show AV.sl 1 ((l.map _).map AI) none = _
  rw [List.map_map]; rfl
theorem far_le {s : Nat → W64} {to x : Nat} (ht : to < 64) (hx : x < 64) : 0 ≤ farF s to x ∧ farF s to x ≤ 66 := by
  rcases far_spec (s := s) ht hx with ⟨h, _⟩ | ⟨m, h, _, h2⟩ <;> omega
theorem best_le (s : Nat → W64) {m : Nat} (hm : m ≤ 64) : 0 ≤ (bestF s m).2 ∧ (bestF s m).2 ≤ 66 ∧ -1 ≤ (bestF s m).1 ∧ (bestF s m).1 < 64 := by
  rcases bestF_spec s m with ⟨h, _⟩ | ⟨f, h1, h2⟩
  · rw [h]; decide
  · have := far_le (s := s) (to := f) (x := f) (by have := h2.lt; omega) (by have := h2.lt; omega)
    rw [h2.eq] at this
    have := h2.lt
    omega
theorem last_at (l : List Nat) (x : Nat) : (l ++ [x])[l.length]? = some x := by simp
theorem cycle_p (n : Int) (c : Procs) (hs : ShortN c) (hz : sizeN c ≤ 1000) : Pure Tryd.prog gs0 13 [netA n c] (cycA (cycR1 n c)) := by
  have hmay := nmay_p n c hs
  cases hm : nmayB n c with
  | false =>
    rw [hm] at hmay
    refine Pure.of (S := tt) (fn := Tryd.f13) (n := 87) tt_ok Tryd.func13 rfl rfl rfl rfl fun w0 h0 F hgs => ?_
    (repeat first|refine A.s rfl ?_|refine A.r rfl rfl ?_|refine A.b rfl fun bx=>?_)
    refine A.c rfl hmay .refl ?_
    (repeat refine A.s rfl ?_); refine A.ret2 (Λ' := []) rfl rfl rfl rfl (List.nil_sublist _) ⟨?_, rfl⟩; rw [cycR1_no hm]; exact .tp (.cons .nil (.cons .refl .nil))
  | true =>
  rw [hm] at hmay
  have hv := (mayB_iff hz).1 hm
  have hin := hv.inB
  have hn := mayG_n hv.g
  have hbef := before_p n c hs hin
  obtain ⟨m, rfl⟩ : ∃ m : Nat, n = m := ⟨n.toNat, by omega⟩
  have hm64 : m ≤ 64 := by omega
  have hlt := fun x d => before_lt hv x d
  generalize hsd : beforeF c = s at hbef hlt
  refine Pure.of (S := tt) (fn := Tryd.f13) (n := 87) tt_ok Tryd.func13 rfl rfl rfl rfl fun w0 h0 F hgs => ?_
  (repeat first|refine A.s rfl ?_|refine A.r rfl rfl ?_|refine A.b rfl fun bx=>?_)
  refine A.c rfl hmay .refl ?_
  (repeat first|refine A.s rfl ?_|refine A.r rfl rfl ?_)
  refine A.c rfl hbef .refl ?_
  (repeat refine A.s rfl ?_)
  refine A.b rfl fun b1 => ?_
  refine A.headEq (.ag (setL fun _ => 0)) (by kernel_rfl) ?_
  refine A.wl rfl (set_one _) (arr_len _) (arr_len _) ?_
  (repeat first|refine A.s rfl ?_|refine A.r rfl rfl ?_)
  refine A.keep [1, 4, 5, 6, 19, 20] rfl ?_
  refine A.loopP (ι := Nat) (fun x => (⟨[(1, .v (.pointer (some ⟨_, 0, none⟩))), (4, .v (.pointer (some ⟨b1, 0, none⟩))), (5, AI (bestF s x).1), (6, AI (bestF s x).2), (19, AI (m : Nat)), (20, AI (x : Nat))], []⟩, [.box b1 (.ag (setL s)), .box _ (.ag [AI m, procsA c])]))
    (fun x => x ≤ m) (fun x => m - x) 0 (by omega) rfl fun x hx xh => ?_
  have hsu := bestF_succ s x
  rw [bestS] at hsu
  (repeat refine A.s rfl ?_)
  refine A.cond rfl (fun hc => ?_) (fun hc => ?_)
  · simp at hc
    have hxm : x < m := by omega
    have hx64 : x < 64 := by omega
    have hfl := far_le (s := s) hx64 hx64
    (repeat refine A.s rfl ?_)
    refine A.la rfl (arr_len _) rfl ?_
    (repeat refine A.s rfl ?_)
    refine A.c rfl (far_p s x hx64) .refl ?_
    (repeat refine A.s rfl ?_)
    refine A.ev (y := AI (farF s x x)) rfl (by omega) (by omega) (by show (intL (farF s x))[x * 1]? = _; rw [Nat.mul_one]; exact range_at _ hx64) rfl ?_
    (repeat refine A.s rfl ?_)
    refine A.valE 30 rfl (x' := AB (decide (0 < farF s x x))) rfl ?_
    ((fail_if_success (refine A.lit? rfl ?_)); refine A.gS rfl (fun hc => ?_) (fun hc => ?_))
    · simp at hc
      have h1 := hc
      (repeat refine A.s rfl ?_)
      refine A.valE 33 rfl (x' := AB (decide ((bestF s x).2 = 0))) (ab_eq (by rw [Bool.eq_iff_iff]; simp)) ?_
      ((fail_if_success (refine A.lit? rfl ?_)); refine A.gS rfl (fun hc => ?_) (fun hc => ?_))
      · simp at hc
        rw [if_pos ⟨h1, .inl hc⟩] at hsu
        (repeat refine A.s rfl ?_)
        refine A.valE 20 rfl (x' := AI ((x + 1 : Nat) : Int)) (inc_eq x (by omega)) ?_
        refine A.valE 5 rfl (x' := AI (bestF s (x + 1)).1) (by rw [hsu]) ?_
        refine A.valE 6 rfl (x' := AI (bestF s (x + 1)).2) (by rw [hsu]) ?_
        refine A.sub (by repeat (first | exact trivial | refine ⟨⟨_, rfl, .refl⟩, ?_⟩)) (xh (x + 1) (by omega) (by omega))
      · simp at hc
        have h2 := hc
        (repeat refine A.s rfl ?_)
        refine A.cond rfl (fun hc => ?_) (fun hc => ?_)
        · simp at hc
          rw [if_pos ⟨h1, .inr hc⟩] at hsu
          (repeat refine A.s rfl ?_)
          refine A.valE 20 rfl (x' := AI ((x + 1 : Nat) : Int)) (inc_eq x (by omega)) ?_
          refine A.valE 5 rfl (x' := AI (bestF s (x + 1)).1) (by rw [hsu]) ?_
          refine A.valE 6 rfl (x' := AI (bestF s (x + 1)).2) (by rw [hsu]) ?_
          refine A.sub (by repeat (first | exact trivial | refine ⟨⟨_, rfl, .refl⟩, ?_⟩)) (xh (x + 1) (by omega) (by omega))
        · simp at hc
          rw [if_neg (fun h => by have := h.2; omega)] at hsu
          (repeat refine A.s rfl ?_)
          refine A.valE 20 rfl (x' := AI ((x + 1 : Nat) : Int)) (inc_eq x (by omega)) ?_
          refine A.valE 5 rfl (x' := AI (bestF s (x + 1)).1) (by rw [hsu]) ?_
          refine A.valE 6 rfl (x' := AI (bestF s (x + 1)).2) (by rw [hsu]) ?_
          refine A.sub (by repeat (first | exact trivial | refine ⟨⟨_, rfl, .refl⟩, ?_⟩)) (xh (x + 1) (by omega) (by omega))
    · simp at hc
      rw [if_neg (fun h => by have := h.1; omega)] at hsu
      (repeat refine A.s rfl ?_)
      refine A.valE 20 rfl (x' := AI ((x + 1 : Nat) : Int)) (inc_eq x (by omega)) ?_
      refine A.valE 5 rfl (x' := AI (bestF s (x + 1)).1) (by rw [hsu]) ?_
      refine A.valE 6 rfl (x' := AI (bestF s (x + 1)).2) (by rw [hsu]) ?_
      refine A.sub (by repeat (first | exact trivial | refine ⟨⟨_, rfl, .refl⟩, ?_⟩)) (xh (x + 1) (by omega) (by omega))
  simp at hc
  have hxl : x = m := by omega
  subst hxl
  have hbl := best_le s hm64
  (repeat refine A.s rfl ?_)
  refine A.cond rfl (fun hc => ?_) (fun hc => ?_)
  · simp at hc
    (repeat refine A.s rfl ?_); refine A.ret2 (Λ' := []) rfl rfl rfl rfl (List.nil_sublist _) ⟨?_, rfl⟩
    rw [cycR1_none hm (by rw [hsd, cycV, if_pos hc])]
    exact .tp (.cons .nil (.cons .refl .nil))
  simp at hc
  have hcv : cycV s x = some ((bestF s x).1.toNat :: cycR s x (farF s (bestF s x).1.toNat) (bestF s x).2 66 (bestF s x).1.toNat 1) := by rw [cycV, if_neg (by omega)]
  refine Exists.elim (show ∃ a : Nat, (bestF s x).1 = a ∧ a < x from ?_) fun fst hf => ?_
  · rcases bestF_spec s x with ⟨h, _⟩ | ⟨f, h1, h2⟩
    · rw [h] at hc; simp at hc
    · exact ⟨f, h1, h2.lt⟩
  obtain ⟨hf1, hf2⟩ := hf
  rw [hf1, Int.toNat_natCast] at hcv
  refine A.valE 5 rfl (x' := AI (fst : Nat)) (ai_eq hf1) ?_
  have hf64 : fst < 64 := by omega
  (repeat refine A.s rfl ?_)
  refine A.la rfl (arr_len _) rfl ?_
  (repeat refine A.s rfl ?_)
  refine A.c rfl (far_p s fst hf64) .refl ?_
  (repeat refine A.s rfl ?_)
  refine A.b rfl fun b2 => ?_
  refine A.headEq (.ag (intL fun _ => 0)) (by kernel_rfl) ?_
  refine A.wl rfl (int_one _) (arr_len _) (arr_len _) ?_
  (repeat first|refine A.s rfl ?_|refine A.t rfl fun bl=>?_)
  refine A.fullTail 1 1 (some ⟨bl, 0, none⟩) (fun h => by cases h) (fun x hx => by injection hx with hx; subst hx; rfl) ?_
  refine A.keep [1, 4, 6, 9, 10] rfl ?_
  refine A.loopP (ι := List Nat × Nat × Value × Nat) (fun q => (⟨[(1, .v (.pointer (some ⟨_, 0, none⟩))), (4, .v (.pointer (some ⟨b1, 0, none⟩))), (6, AI (bestF s x).2), (9, .v (.pointer (some ⟨b2, 0, none⟩))), (10, .sl 1 (natsA (q.1 ++ [q.2.1])) (some q.2.2.1))], []⟩, [.tail 1 q.2.2.1, .box b2 (.ag (intL (farF s fst))), .box b1 (.ag (setL s)), .box _ (.ag [AI x, procsA c])]))
    (fun q => some ((q.1 ++ [q.2.1]) ++ cycR s x (farF s fst) (bestF s x).2 q.2.2.2 q.2.1 ((q.1.length : Int) + 1)) = cycV s x ∧ q.2.1 < x ∧ q.1.length + 1 + q.2.2.2 = 67) (fun q => q.2.2.2) ([], fst, _, 66) ⟨by rw [hcv]; rfl, hf2, rfl⟩ rfl fun q hi ih => ?_
  obtain ⟨l0, at1, z, f⟩ := q
  simp only at hi ih ⊢
  obtain ⟨h1, h2, h3⟩ := hi
  have hll : ((natsA (l0 ++ [at1])).length : Int) = ((l0.length + 1 : Nat) : Int) := by rw [List.length_map, List.length_append]; rfl
  have at64 : at1 < 64 := by omega
  have hat : (natsA (l0 ++ [at1]))[l0.length]? = some (AI (at1 : Nat)) := map_at (last_at l0 at1)
  (repeat refine A.s rfl ?_)
  refine A.valE 50 rfl (x' := AI ((l0.length + 1 : Nat) : Int)) (ai_eq hll) ?_
  skip
  refine A.cond rfl (fun hc => ?_) (fun hc => ?_)
  · simp at hc
    have hlb := hc
    obtain ⟨f', rfl⟩ : ∃ f', f = f' + 1 := ⟨f - 1, by omega⟩
    rw [cycR, if_pos (by omega)] at h1
    (repeat refine A.s rfl ?_)
    refine A.valE 56 rfl (x' := AI (l0.length : Nat)) (ai_eq (by rw [hll, w64_id (by unfold i64; omega)]; omega)) ?_
    refine A.x rfl (by omega) hat rfl rfl ?_
    (repeat first|refine A.s rfl ?_|refine A.r rfl rfl ?_)
    refine A.keep [1, 4, 6, 9, 10, 11, 60, 61] rfl ?_
    refine A.loopP (ι := Nat) (fun d => (⟨[(1, .v (.pointer (some ⟨_, 0, none⟩))), (4, .v (.pointer (some ⟨b1, 0, none⟩))), (6, AI (bestF s x).2), (9, .v (.pointer (some ⟨b2, 0, none⟩))), (10, .sl 1 (natsA (l0 ++ [at1])) (some z)), (11, AI (at1 : Nat)), (60, AI (x : Nat)), (61, AI (d : Nat))], []⟩, [.tail 1 z, .box b2 (.ag (intL (farF s fst))), .box b1 (.ag (setL s)), .box _ (.ag [AI x, procsA c])]))
      (fun d => d ≤ x ∧ ((List.range x).drop d).find? (nxtB s (farF s fst) at1 ((bestF s x).2 - ((l0.length : Int) + 1))) = (List.range x).find? (nxtB s (farF s fst) at1 ((bestF s x).2 - ((l0.length : Int) + 1)))) (fun d => x - d) 0 ⟨by omega, rfl⟩ rfl fun d hd dh => ?_
    obtain ⟨hd1, hd2⟩ := hd
    (repeat refine A.s rfl ?_)
    refine A.cond rfl (fun hc => ?_) (fun hc => ?_)
    · simp at hc
      have hdx : d < x := by omega
      have hd64 : d < 64 := by omega
      rw [range_drop hdx, List.find?_cons] at hd2
      (repeat refine A.s rfl ?_)
      refine A.xa rfl (p := at1) (by omega) (by omega) (off1 at1) rfl ?_
      refine A.ra rfl (range_at _ at64) rfl ?_
      (repeat refine A.s rfl ?_)
      refine A.shift rfl rfl rfl rfl rfl rfl (by omega) ?_
      refine A.valE 68 rfl (x' := U64 (s at1 >>> d)) (u64_eq (ushr _ _ hd64)) ?_
      (repeat refine A.s rfl ?_)
      refine A.valE 71 rfl (x' := AB ((s at1).getLsbD d)) (ab_eq (bit1 _ d)) ?_
      ((fail_if_success (refine A.lit? rfl ?_)); refine A.gS rfl (fun hc => ?_) (fun hc => ?_))
      · have hb := hc
        (repeat refine A.s rfl ?_)
        refine A.xa rfl (p := d) (by omega) (by omega) (off1 d) rfl ?_
        refine A.ra rfl (range_at _ hd64) rfl ?_
        (repeat refine A.s rfl ?_)
        refine A.valE 80 rfl (x' := AB (nxtB s (farF s fst) at1 ((bestF s x).2 - ((l0.length : Int) + 1)) d)) (ab_eq (by rw [hll, nxtB, hb, w64_id (by unfold i64; omega)]; rfl)) ?_
        refine A.cond rfl (fun hc => ?_) (fun hc => ?_)
        · rw [hc] at hd2
          rw [← hd2] at h1
          (repeat first|refine A.s rfl ?_|refine A.t rfl fun bl=>?_)
          refine A.entsEq (Λ' := [.tail ty3.size z, .box _ _, .box _ _, .box _ _]) rfl ?_
          refine A.append rfl rfl rfl rfl rfl rfl rfl rfl rfl rfl rfl rfl rfl rfl (by show ((natsA (l0 ++ [at1])).length + 1) * 1 ≤ _; rw [List.length_map, List.length_append]; simp; omega) fun z' => ?_
          refine A.valE 84 rfl (x' := .sl 1 (natsA ((l0 ++ [at1]) ++ [d])) (some z')) (by rw [show natsA ((l0 ++ [at1]) ++ [d]) = natsA (l0 ++ [at1]) ++ [AI (d : Nat)] from List.map_append]; rfl) ?_
          (repeat refine A.s rfl ?_)
          refine A.sub (by repeat (first | exact trivial | refine ⟨⟨_, rfl, .refl⟩, ?_⟩)) (ih (l0 ++ [at1], d, z', f') ⟨?_, hdx, by simp only [List.length_append, List.length_singleton]; omega⟩ (by simp only; omega))
          rw [← h1]
          simp only [List.length_append, List.length_singleton]
          congr 1
          rw [List.append_assoc (l0 ++ [at1])]
          push_cast
          rfl
        · rw [hc] at hd2
          (repeat refine A.s rfl ?_)
          refine A.valE 61 rfl (x' := AI ((d + 1 : Nat) : Int)) (inc_eq d (by omega)) ?_
          refine A.sub (by repeat (first | exact trivial | refine ⟨⟨_, rfl, .refl⟩, ?_⟩)) (dh (d + 1) ⟨by omega, hd2⟩ (by omega))
      · have hb : nxtB s (farF s fst) at1 ((bestF s x).2 - ((l0.length : Int) + 1)) d = false := by rw [nxtB, hc]; rfl
        rw [hb] at hd2
        (repeat refine A.s rfl ?_)
        refine A.valE 61 rfl (x' := AI ((d + 1 : Nat) : Int)) (inc_eq d (by omega)) ?_
        refine A.sub (by repeat (first | exact trivial | refine ⟨⟨_, rfl, .refl⟩, ?_⟩)) (dh (d + 1) ⟨by omega, hd2⟩ (by omega))
    · simp at hc
      have hdx : d = x := by omega
      rw [hdx, range_end, List.find?_nil] at hd2
      rw [← hd2, List.append_nil] at h1
      (repeat refine A.s rfl ?_); refine A.ret2 (Λ' := []) rfl rfl rfl rfl (List.nil_sublist _) ⟨?_, rfl⟩
      rw [cycR1_some hm (by rw [hsd]; exact h1.symm)]
      show Sb (.tp [_, _]) (.tp [rowI _, AB true])
      rw [natsA_row]; exact .tp (.cons (.own .refl) .refl)
  · simp at hc
    have hcr : cycR s x (farF s fst) (bestF s x).2 f at1 ((l0.length : Int) + 1) = [] := by
      cases f with
      | zero => rfl
      | succ f => rw [cycR, if_neg (by omega)]
    rw [hcr, List.append_nil] at h1
    (repeat refine A.s rfl ?_); refine A.ret2 (Λ' := []) rfl rfl rfl rfl (List.nil_sublist _) ⟨?_, rfl⟩
    rw [cycR1_some hm (by rw [hsd]; exact h1.symm)]
    show Sb (.tp [_, _]) (.tp [rowI _, AB true])
    rw [natsA_row]; exact .tp (.cons (.own .refl) .refl)
end Go.Proofs.YtgmeahcclogfmaaDoor
/-!
  Chapter 23: the fixed results, and the order of processes.
-/
namespace Go.Proofs.YtgmeahcclogfmaaDoor
open Go Go.Tp
set_option linter.unusedVariables false
set_option linter.unusedSimpArgs false
set_option maxRecDepth 100000
set_option maxHeartbeats 4000000
theorem Small.short {c : Procs} (h : Small c) : ShortN c where
  procs := by have := h.procs; omega
  steps := fun p hp => by have := h.steps p hp; omega
  uses := fun p hp s hs => by have := h.row hp hs; omega
def netOne : Procs := [[[0], [1]], [[0], [2]], [[1], [2]]]
def netTwo : Procs := [[[0], [1]], [[1], [2]], [[2], [0]]]
def netThree : Procs := [[[0]]]
theorem small_one : Small netOne := ⟨by decide, by decide, by decide⟩
theorem small_two : Small netTwo := ⟨by decide, by decide, by decide⟩
theorem small_three : Small netThree := ⟨by decide, by decide, by decide⟩
theorem rank_one : rankR 3 netOne = ([0, 1, 2], 0) := by kernel_rfl
theorem rank_two : rankR 3 netTwo = ([], 230) := by kernel_rfl
theorem rank_three : rankR 1 netThree = ([], 2) := by kernel_rfl
theorem cyc_one : cycR1 3 netOne = ([], false) := by kernel_rfl
theorem cyc_two : cycR1 3 netTwo = ([0, 2, 1], true) := by kernel_rfl
theorem chk_one : checkB 3 netOne [5, 7, 9] = true := by kernel_rfl
theorem chk_oneN : checkB 3 netOne [0, 1, 1] = false := by kernel_rfl
theorem chk_two : checkB 3 netTwo [0, 1, 2] = false := by kernel_rfl
theorem head_p : Pure Tryd.prog gs0 6 [] (AB true) := by
  have r1 := rank_p 3 netOne small_one.short (by decide)
  have r2 := rank_p 3 netTwo small_two.short (by decide)
  have r3 := rank_p 1 netThree small_three.short (by decide)
  have y1 := cycle_p 3 netOne small_one.short (by decide)
  have y2 := cycle_p 3 netTwo small_two.short (by decide)
  have k1 := check_p 3 netOne [5, 7, 9] small_one.short (by decide) (by decide)
  have k2 := check_p 3 netOne [0, 1, 1] small_one.short (by decide) (by decide)
  have k3 := check_p 3 netTwo [0, 1, 2] small_two.short (by decide) (by decide)
  have s1 : Pure Tryd.prog gs0 14 [rowI [0, 1, 2], rowI [0, 1, 2]] (AB true) := same_p _ _ (by decide)
  have s2 : Pure Tryd.prog gs0 14 [rowI [0, 2, 1], rowI [0, 2, 1]] (AB true) := same_p _ _ (by decide)
  rw [rank_one] at r1
  rw [rank_two] at r2
  rw [rank_three] at r3
  rw [cyc_one] at y1
  rw [cyc_two] at y2
  rw [chk_one] at k1
  rw [chk_oneN] at k2
  rw [chk_two] at k3
  refine Pure.of (S := tt) (fn := Tryd.f6) (n := 107) tt_ok Tryd.func6 rfl rfl rfl rfl fun w0 h0 F hgs => ?_
  (repeat first|refine A.s rfl ?_|refine A.r rfl rfl ?_|refine A.w rfl rfl ?_|refine A.b rfl fun bx=>?_|refine A.t rfl fun bl=>?_)
  refine A.c rfl r1 (by repeat (first | exact Sb.refl | exact SbL.refl | refine SbL.cons ?_ ?_ | exact Sb.nil | exact Sb.own1 | refine Sb.own ?_ | refine Sb.ag ?_ | refine Sb.tp ?_)) ?_
  (repeat first|refine A.s rfl ?_|refine A.r rfl rfl ?_)
  refine A.c rfl r2 (by repeat (first | exact Sb.refl | exact SbL.refl | refine SbL.cons ?_ ?_ | exact Sb.nil | exact Sb.own1 | refine Sb.own ?_ | refine Sb.ag ?_ | refine Sb.tp ?_)) ?_
  (repeat first|refine A.s rfl ?_|refine A.r rfl rfl ?_)
  refine A.c rfl y2 (by repeat (first | exact Sb.refl | exact SbL.refl | refine SbL.cons ?_ ?_ | exact Sb.nil | exact Sb.own1 | refine Sb.own ?_ | refine Sb.ag ?_ | refine Sb.tp ?_)) ?_
  (repeat first|refine A.s rfl ?_|refine A.r rfl rfl ?_)
  refine A.c rfl y1 (by repeat (first | exact Sb.refl | exact SbL.refl | refine SbL.cons ?_ ?_ | exact Sb.nil | exact Sb.own1 | refine Sb.own ?_ | refine Sb.ag ?_ | refine Sb.tp ?_)) ?_
  (repeat first|refine A.s rfl ?_|refine A.t rfl fun bl=>?_)
  refine A.c rfl r3 (by repeat (first | exact Sb.refl | exact SbL.refl | refine SbL.cons ?_ ?_ | exact Sb.nil | exact Sb.own1 | refine Sb.own ?_ | refine Sb.ag ?_ | refine Sb.tp ?_)) ?_
  (repeat first|refine A.s rfl ?_|refine A.t rfl fun bl=>?_)
  refine A.c rfl s1 (by repeat (first | exact Sb.refl | exact SbL.refl | refine SbL.cons ?_ ?_ | exact Sb.nil | exact Sb.own1 | refine Sb.own ?_ | refine Sb.ag ?_ | refine Sb.tp ?_)) ?_
  (repeat first|refine A.s rfl ?_|refine A.t rfl fun bl=>?_)
  refine A.c rfl s2 (by repeat (first | exact Sb.refl | exact SbL.refl | refine SbL.cons ?_ ?_ | exact Sb.nil | exact Sb.own1 | refine Sb.own ?_ | refine Sb.ag ?_ | refine Sb.tp ?_)) ?_
  (repeat first|refine A.s rfl ?_|refine A.r rfl rfl ?_|refine A.t rfl fun bl=>?_)
  refine A.c rfl k1 (by repeat (first | exact Sb.refl | exact SbL.refl | refine SbL.cons ?_ ?_ | exact Sb.nil | exact Sb.own1 | refine Sb.own ?_ | refine Sb.ag ?_ | refine Sb.tp ?_)) ?_
  (repeat first|refine A.s rfl ?_|refine A.r rfl rfl ?_|refine A.t rfl fun bl=>?_)
  refine A.c rfl k2 (by repeat (first | exact Sb.refl | exact SbL.refl | refine SbL.cons ?_ ?_ | exact Sb.nil | exact Sb.own1 | refine Sb.own ?_ | refine Sb.ag ?_ | refine Sb.tp ?_)) ?_
  (repeat first|refine A.s rfl ?_|refine A.r rfl rfl ?_|refine A.t rfl fun bl=>?_)
  refine A.c rfl k3 (by repeat (first | exact Sb.refl | exact SbL.refl | refine SbL.cons ?_ ?_ | exact Sb.nil | exact Sb.own1 | refine Sb.own ?_ | refine Sb.ag ?_ | refine Sb.tp ?_)) ?_
  (repeat refine A.s rfl ?_); refine A.ret1 (Λ' := []) rfl rfl rfl (List.nil_sublist _) ⟨?_, rfl⟩; exact .refl
theorem same_self (a : List Int) (ha : a.length ≤ 281474976710656) : Pure Tryd.prog gs0 14 [rowI a, rowI a] (AB true) := by
  have := same_p a a ha
  rw [show sameL a a = true by simp [sameL]] at this
  exact this
end Go.Proofs.YtgmeahcclogfmaaDoor
/-!
  Chapter 23: equal networks, by the reference.
-/
namespace Go.Proofs.YtgmeahcclogfmaaDoor
open Go Go.Tp
set_option linter.unusedVariables false
set_option linter.unusedSimpArgs false
set_option maxRecDepth 100000
set_option maxHeartbeats 4000000
theorem nets_self (n : Int) (c : Procs) (hS : ShortN c) : Pure Tryd.prog gs0 9 [netA n c, netA n c] (AB true) := by
  refine Pure.of (S := tt) (fn := Tryd.f9) (n := 69) tt_ok Tryd.func9 rfl rfl rfl rfl fun w0 h0 F hgs => ?_
  (repeat first|refine A.s rfl ?_|refine A.r rfl rfl ?_|refine A.b rfl fun bx=>?_|refine A.step rfl ?_|refine A.v rfl rfl ?_)
  refine A.valE 12 rfl (x' := AB false) (ab_eq (by show (!(n == n)) = false; simp)) ?_
  skip
  refine A.valE 20 rfl (x' := AB false) (ab_eq (by simp)) ?_
  (repeat refine A.s rfl ?_)
  refine A.freeze 2 (sz := 2) rfl rfl rfl ?_
  refine A.freeze 3 (sz := 2) rfl rfl rfl ?_
  refine A.keep [2, 3, 5] rfl ?_
  refine A.loopP (ι := Nat) (fun i => (⟨[(2, .pe 2 (netA n c)), (3, .pe 2 (netA n c)), (5, AI (i : Nat))], []⟩, [])) (fun i => i ≤ c.length) (fun i => c.length - i) 0 (Nat.zero_le _) rfl fun i hi ih => ?_
  (repeat refine A.s rfl ?_)
  refine A.cond rfl (fun hc => ?_) (fun hc => ?_)
  · have hc' : i < c.length := by simpa using hc
    refine Exists.elim (at_exN (l := c) (i := i) hc') fun p hp => ?_
    have hpm := List.mem_of_getElem? hp
    have hpl := hS.steps p hpm
    (repeat refine A.s rfl ?_)
    refine A.draw 12 [0, 1, 2, 3, 4, 5, 6, 7, 8, 9, 10, 11] noPubs [] (by kernel_rfl) (by kernel_rfl) ?_
    (repeat refine WA.s rfl ?_)
    refine WA.x rfl (by show (0 : Int) ≤ (i : Nat); omega) (map_at hp) rfl rfl ?_
    (repeat refine WA.s rfl ?_)
    refine WA.x rfl (by show (0 : Int) ≤ (i : Nat); omega) (map_at hp) rfl rfl ?_
    (repeat refine WA.s rfl ?_)
    refine WA.nil (l := []) rfl ?_
    (repeat refine A.s rfl ?_)
    refine A.valE 40 rfl (x' := AB false) (ab_eq (by show (!(((p.map rowI).length : Int) == ((p.map rowI).length : Int))) = false; simp)) ?_
    (repeat refine A.s rfl ?_)
    refine A.keep [2, 3, 5, 6] rfl ?_
    refine A.loopP (ι := Nat) (fun j => (⟨[(2, .pe 2 (netA n c)), (3, .pe 2 (netA n c)), (5, AI (i : Nat)), (6, AI (j : Nat))], []⟩, [])) (fun j => j ≤ p.length) (fun j => p.length - j) 0 (Nat.zero_le _) rfl fun j hj jh => ?_
    (repeat refine A.s rfl ?_)
    refine A.x rfl (by show (0 : Int) ≤ (i : Nat); omega) (map_at hp) rfl rfl ?_
    (repeat refine A.s rfl ?_)
    refine A.cond rfl (fun hc => ?_) (fun hc => ?_)
    · have hcj : j < p.length := by simpa using hc
      refine Exists.elim (at_exN (l := p) (i := j) hcj) fun s hs => ?_
      have hself := same_self s (hS.uses p hpm s (List.mem_of_getElem? hs))
      (repeat refine A.s rfl ?_)
      refine A.draw 16 [0, 1, 2, 3, 4, 5, 6, 7, 8, 9, 10, 11, 12, 13, 14, 15] noPubs [] (by kernel_rfl) (by kernel_rfl) ?_
      (repeat refine WA.s rfl ?_)
      refine WA.x rfl (by show (0 : Int) ≤ (i : Nat); omega) (map_at hp) rfl rfl ?_
      (repeat refine WA.s rfl ?_)
      refine WA.x rfl (by show (0 : Int) ≤ (j : Nat); omega) (map_at hs) rfl rfl ?_
      (repeat refine WA.s rfl ?_)
      refine WA.x rfl (by show (0 : Int) ≤ (i : Nat); omega) (map_at hp) rfl rfl ?_
      (repeat refine WA.s rfl ?_)
      refine WA.x rfl (by show (0 : Int) ≤ (j : Nat); omega) (map_at hs) rfl rfl ?_
      (repeat refine WA.s rfl ?_)
      refine WA.nil (l := []) rfl ?_
      skip
      refine A.c rfl hself .refl ?_
      (repeat refine A.s rfl ?_)
      refine A.valE 6 rfl (x' := AI ((j + 1 : Nat) : Int)) (inc_eq j (by omega)) ?_
      refine A.sub (by repeat (first | exact trivial | refine ⟨⟨_, rfl, .refl⟩, ?_⟩)) (jh (j + 1) (by omega) (by omega))
    have hcj : ¬ j < p.length := by simpa using hc
    (repeat refine A.s rfl ?_)
    refine A.valE 5 rfl (x' := AI ((i + 1 : Nat) : Int)) (inc_eq i (by have := hS.procs; omega)) ?_
    refine A.sub (by repeat (first | exact trivial | refine ⟨⟨_, rfl, .refl⟩, ?_⟩)) (ih (i + 1) (by omega) (by omega))
  (repeat refine A.s rfl ?_); refine A.ret1 (Λ' := []) rfl rfl rfl (List.nil_sublist _) ⟨?_, rfl⟩; exact .refl
end Go.Proofs.YtgmeahcclogfmaaDoor
/-!
  Chapter 23: the law on the kernel of a network.
-/
namespace Go.Proofs.YtgmeahcclogfmaaDoor
open Go Go.Tp
set_option linter.unusedVariables false
set_option linter.unusedSimpArgs false
set_option maxRecDepth 100000
set_option maxHeartbeats 4000000
theorem built_law (n : Int) (c : Procs) (hsh : ShortN c) : Pure Tryd.prog gsQ 3 [netA n c] (AB true) := by
  have hhead := head_p.any (gs := gsQ)
  have hlg := (large_p n c hsh).any (gs := gsQ)
  cases hl : largeB c with
  | true =>
    rw [hl] at hlg
    refine Pure.of (S := tt) (fn := Tryd.f3) (n := 64) tt_ok Tryd.func3 rfl rfl rfl rfl fun w0 h0 F hgs => ?_
    (repeat first|refine A.s rfl ?_|refine A.r rfl rfl ?_|refine A.b rfl fun bx=>?_)
    refine A.c rfl hlg .refl ?_
    ((repeat refine A.s rfl ?_); refine A.c rfl hhead .refl ?_; (repeat refine A.s rfl ?_); refine A.ret1 (Λ' := []) rfl rfl rfl (List.nil_sublist _) ⟨?_, rfl⟩; exact .refl)
  | false =>
  rw [hl] at hlg
  have hS := small_of hl
  by_cases h62 : 62 < n
  · refine Pure.of (S := tt) (fn := Tryd.f3) (n := 64) tt_ok Tryd.func3 rfl rfl rfl rfl fun w0 h0 F hgs => ?_
    (repeat first|refine A.s rfl ?_|refine A.r rfl rfl ?_|refine A.b rfl fun bx=>?_)
    refine A.c rfl hlg .refl ?_
    (repeat first|refine A.s rfl ?_|refine A.r rfl rfl ?_)
    refine A.valE 14 rfl (x' := AB true) (ab_eq (decide_eq_true h62)) ?_
    ((repeat refine A.s rfl ?_); refine A.c rfl hhead .refl ?_; (repeat refine A.s rfl ?_); refine A.ret1 (Λ' := []) rfl rfl rfl (List.nil_sublist _) ⟨?_, rfl⟩; exact .refl)
  have hrm := (rmay_p n c hsh (by have := hS.size; omega)).any (gs := gsQ)
  cases hmy : nmayB n c with
  | false =>
    rw [hmy] at hrm
    refine Pure.of (S := tt) (fn := Tryd.f3) (n := 64) tt_ok Tryd.func3 rfl rfl rfl rfl fun w0 h0 F hgs => ?_
    (repeat first|refine A.s rfl ?_|refine A.r rfl rfl ?_|refine A.b rfl fun bx=>?_)
    refine A.c rfl hlg .refl ?_
    (repeat first|refine A.s rfl ?_|refine A.r rfl rfl ?_)
    refine A.valE 14 rfl (x' := AB false) (ab_eq (decide_eq_false h62)) ?_
    (repeat refine A.r rfl rfl ?_)
    refine A.c rfl hrm .refl ?_
    ((repeat refine A.s rfl ?_); refine A.c rfl hhead .refl ?_; (repeat refine A.s rfl ?_); refine A.ret1 (Λ' := []) rfl rfl rfl (List.nil_sublist _) ⟨?_, rfl⟩; exact .refl)
  | true =>
  rw [hmy] at hrm
  have hV : Valid n c := (mayB_iff (by have := hS.size; omega)).1 hmy
  have hn0 : 0 ≤ n := by
    have := hV.g
    simp only [mayG, Bool.and_eq_true, decide_eq_true_eq] at this
    omega
  obtain ⟨m, rfl⟩ : ∃ m : Nat, n = m := ⟨n.toNat, by omega⟩
  have hm : m ≤ 62 := by omega
  have hrng : ∀ p, p ∈ c → ∀ s, s ∈ p → ∀ x, x ∈ s → 0 ≤ x ∧ x < m := fun p hp s hs x hx => (hV.fine p hp).rng x (List.mem_flatten.2 ⟨s, hs, hx⟩)
  have hbu := (built_p m c hm hrng hS).any (gs := gsQ)
  have hhi := (higher_p m c ⟨by omega, by omega⟩ hV.inB hS).any (gs := gsQ)
  have hcl := hsh.procs
  refine Pure.of (S := tt) (fn := Tryd.f3) (n := 64) tt_ok Tryd.func3 rfl rfl rfl rfl fun w0 h0 F hgs => ?_
  (repeat first|refine A.s rfl ?_|refine A.r rfl rfl ?_|refine A.b rfl fun bx=>?_)
  refine A.c rfl hlg .refl ?_
  (repeat first|refine A.s rfl ?_|refine A.r rfl rfl ?_)
  refine A.valE 14 rfl (x' := AB false) (ab_eq (decide_eq_false h62)) ?_
  (repeat refine A.r rfl rfl ?_)
  refine A.c rfl hrm .refl ?_
  (repeat refine A.s rfl ?_)
  refine A.freeze 1 (sz := 2) rfl rfl rfl ?_
  refine A.keep [1, 3] rfl ?_
  refine A.loopP (ι := Nat) (fun i => (⟨[(1, .pe 2 (netA m c)), (3, AI (i : Nat))], []⟩, [])) (fun i => i ≤ c.length ∧ ∀ p, p ∈ c.take i → ∀ s, s ∈ p → s.length ≤ 16) (fun i => c.length - i) 0 ⟨Nat.zero_le _, fun p hp => by cases hp⟩ rfl fun i hi ih => ?_
  obtain ⟨hi1, hi2⟩ := hi
  (repeat refine A.s rfl ?_)
  refine A.cond rfl (fun hc => ?_) (fun hc => ?_)
  · have hci : i < c.length := by simpa using hc
    refine Exists.elim (at_exN (l := c) (i := i) hci) fun p hp => ?_
    have hpm := List.mem_of_getElem? hp
    have hpl := hsh.steps p hpm
    have htk : c.take (i + 1) = c.take i ++ [p] := by rw [List.take_add_one, hp]; rfl
    (repeat refine A.s rfl ?_)
    refine A.keep [1, 3, 4] rfl ?_
    refine A.loopP (ι := Nat) (fun j => (⟨[(1, .pe 2 (netA m c)), (3, AI (i : Nat)), (4, AI (j : Nat))], []⟩, [])) (fun j => j ≤ p.length ∧ ∀ s, s ∈ p.take j → s.length ≤ 16) (fun j => p.length - j) 0 ⟨Nat.zero_le _, fun p hp => by cases hp⟩ rfl fun j hj jh => ?_
    obtain ⟨hj1, hj2⟩ := hj
    (repeat refine A.s rfl ?_)
    refine A.x rfl (by show (0 : Int) ≤ (i : Nat); omega) (map_at hp) rfl rfl ?_
    (repeat refine A.s rfl ?_)
    refine A.cond rfl (fun hc => ?_) (fun hc => ?_)
    · have hcj : j < p.length := by simpa using hc
      refine Exists.elim (at_exN (l := p) (i := j) hcj) fun s hs => ?_
      have htk2 : p.take (j + 1) = p.take j ++ [s] := by rw [List.take_add_one, hs]; rfl
      (repeat refine A.s rfl ?_)
      refine A.x rfl (by show (0 : Int) ≤ (i : Nat); omega) (map_at hp) rfl rfl ?_
      (repeat refine A.s rfl ?_)
      refine A.x rfl (by show (0 : Int) ≤ (j : Nat); omega) (map_at hs) rfl rfl ?_
      (repeat refine A.s rfl ?_)
      refine A.cond rfl (fun hc => ?_) (fun hc => ?_)
      · ((repeat refine A.s rfl ?_); refine A.c rfl hhead .refl ?_; (repeat refine A.s rfl ?_); refine A.ret1 (Λ' := []) rfl rfl rfl (List.nil_sublist _) ⟨?_, rfl⟩; exact .refl)
      have h16 : s.length ≤ 16 := by have := hc; simp at this; omega
      (repeat refine A.s rfl ?_)
      refine A.valE 4 rfl (x' := AI ((j + 1 : Nat) : Int)) (inc_eq j (by omega)) ?_
      refine A.sub (by repeat (first | exact trivial | refine ⟨⟨_, rfl, .refl⟩, ?_⟩)) (jh (j + 1) ⟨by omega, fun t ht => by
        rw [htk2, List.mem_append, List.mem_singleton] at ht
        rcases ht with ht | rfl
        · exact hj2 t ht
        · exact h16⟩ (by omega))
    have hcj : ¬ j < p.length := by simpa using hc
    have hjl : j = p.length := by omega
    rw [hjl, List.take_length] at hj2
    (repeat refine A.s rfl ?_)
    refine A.valE 3 rfl (x' := AI ((i + 1 : Nat) : Int)) (inc_eq i (by omega)) ?_
    refine A.sub (by repeat (first | exact trivial | refine ⟨⟨_, rfl, .refl⟩, ?_⟩)) (ih (i + 1) ⟨by omega, fun t ht => by
      rw [htk, List.mem_append, List.mem_singleton] at ht
      rcases ht with ht | rfl
      · exact hi2 t ht
      · exact hj2⟩ (by omega))
  have hci : ¬ i < c.length := by simpa using hc
  have hil : i = c.length := by omega
  rw [hil, List.take_length] at hi2
  have hN : NetOk m c := ⟨hV, hS, hm, fun p hp s hs => ⟨(hV.fine p hp).nes s hs, hi2 p hp s hs, fun x hx => by have := hrng p hp s hs x hx; omega⟩⟩
  have hcp := class_p (builtK m c) (built_wf hN)
  obtain ⟨hb1, hb2, hb3⟩ := built_class hN
  rw [hb1, hb2, hb3] at hcp
  have hsu : ShortN (upC c) := ⟨by rw [upC, List.length_map]; exact hcl, fun p hp => by
      obtain ⟨q, hq, rfl⟩ := List.mem_map.1 hp
      rw [upP, List.length_map]; exact hsh.steps q hq, fun p hp s hs => by
      obtain ⟨q, hq, rfl⟩ := List.mem_map.1 hp
      obtain ⟨t, ht, rfl⟩ := List.mem_map.1 hs
      rw [up2, List.length_map]; exact hsh.uses q hq t ht⟩
  have hself := (nets_self ((m : Int) + 2) (upC c) hsu).any (gs := gsQ)
  rw [show ((m + 2 : Nat) : Int) = (m : Int) + 2 by omega] at hcp
  (repeat refine A.s rfl ?_)
  refine A.c rfl hbu .refl ?_
  skip
  refine A.c rfl hcp .refl ?_
  (repeat first|refine A.s rfl ?_|refine A.w rfl rfl ?_|refine A.b rfl fun bx=>?_)
  refine A.draw 5 [0, 1, 2, 3, 4] noPubs [(4, netA ((m : Int) + 2) (upC c))] (by kernel_rfl) (by kernel_rfl) ?_
  (repeat first|refine WA.s rfl ?_|refine WA.r rfl rfl ?_)
  refine WA.c rfl rfl hhi (.sub .refl) ?_
  refine WA.nil (l := []) rfl ?_
  skip
  refine A.c rfl hself .refl ?_
  (repeat refine A.s rfl ?_)
  refine A.c rfl hhead .refl ?_
  (repeat refine A.s rfl ?_); refine A.ret1 (Λ' := []) rfl rfl rfl (List.nil_sublist _) ⟨?_, rfl⟩; exact .refl
end Go.Proofs.YtgmeahcclogfmaaDoor
/-!
  Chapter 22 for other chapters: the laid table of depth.
-/
namespace Go.Proofs.YtgmeahcclogfmaaDoor
open Go Go.Tp Go.ChangeShapes Go.WideShapes Go.ChangeAt Go.RowKit
set_option linter.unusedVariables false
set_option linter.unusedSimpArgs false
set_option maxRecDepth 100000
theorem gQ : Tryd.prog.globalNamed "transputer/depth.quiet" = some 0 := by kernel_rfl
theorem gQt : (Tryd.prog.globals[0]?).map (·.type) = some 123 := by kernel_rfl
theorem laid_eq : (Rows.laid_transputer_depth_quiet : DataW Unit) = .agg (((List.range 27).map fun (i : Nat) => S22.quietB i).map fun z => .lit (.bool z)) := rfl
theorem quiet_of {W : World} (h : laidMetH Tryd.prog [("transputer/depth.quiet", Rows.laid_transputer_depth_quiet)] W) : atH (hOf W) 0 0 S22.quietL := by
  have h : laidMet Tryd.prog [("transputer/depth.quiet", Rows.laid_transputer_depth_quiet)] W := h
  obtain ⟨cs, fuel, p, _, hd, hc⟩ := laid_head gQ gQt h
  rw [laid_eq] at hd
  have hcs := cells_of_bools (by kernel_rfl : Tryd.prog.underlying 123 = some (.array 27 4)) (by kernel_rfl) (by kernel_rfl) (by kernel_rfl) hd
  have hq : cs.toList = S22.quietL := by rw [hcs]; rfl
  refine hOf_at (fun i _ => ?_) (allOne_mem (by rfl))
  rw [Nat.zero_add, hc i, ← Array.getElem?_toList, hq]
theorem gs_of {W : World} (h : laidMetH Tryd.prog [("transputer/depth.quiet", Rows.laid_transputer_depth_quiet)] W) : GsOk (hOf W) gsQ := fun g x hx => by
  have hq := quiet_of h
  simp only [gsQ, lookA] at hx
  split at hx
  · rename_i hb
    have hg := Nat.eq_of_beq_eq_true hb
    subst hg
    injection hx with hx
    subst hx
    rw [Rp_pe]
    exact ⟨0, 0, .agg ⟨S22.quietL⟩, rfl, Rp_ag.2 ⟨S22.quietL, rfl, RpC_v (by rfl)⟩, rfl, hq⟩
  · cases hx
noncomputable def laidWorld (os : Os) : World :=
  { World.holding Tryd.prog os ⟨#[], #[], []⟩ with heap := (World.holding Tryd.prog os ⟨#[], #[], []⟩).heap.modify 0 fun
      | .cells _ t frozen => .cells ⟨S22.quietL⟩ t frozen
      | o => o }
end Go.Proofs.YtgmeahcclogfmaaDoor
/-!
  Chapter 23: what the arguments read as.
-/
namespace Go.Proofs.YtgmeahcclogfmaaDoor
open Go Go.Tp Go.ChangeShapes Go.WideShapes Go.ChangeAt Go.RowKit
set_option linter.unusedVariables false
set_option linter.unusedSimpArgs false
set_option maxRecDepth 100000
theorem own : ownKnob Tryd.prog.godebug = none := by kernel_rfl
theorem laidOut : laidOutB Tryd.prog = true := by kernel_rfl
section
variable {H : Type} {enc : TypeId × Value → H} {W : World} {base : Nat} {sp : Nat → Bool} {hd : Bool}
abbrev QR (l : List Int) : Prop := (∀ x, x ∈ l → i64 x) ∧ l.length * 8 ≤ reachBytes
abbrev QP (p : List (List Int)) : Prop := (∀ l, l ∈ p → QR l) ∧ p.length * 24 ≤ reachBytes
abbrev QN (c : Procs) : Prop := (∀ p, p ∈ c → QP p) ∧ c.length * 24 ≤ reachBytes
theorem op_row (n : Nat) : Opn enc Tryd.prog W base sp hd (n + 1) 28 (fun l => [rowI l]) QR :=
  Opn.slice1 (bt := 8) (by kernel_rfl) (by kernel_rfl) (by kernel_rfl) (Opn.i64 (t := 3) (by kernel_rfl) n)
theorem op_proc (n : Nat) : Opn enc Tryd.prog W base sp hd (n + 2) 27 (fun p => [procA p]) QP :=
  Opn.slice1 (bt := 24) (by kernel_rfl) (by kernel_rfl) (by kernel_rfl) (op_row n)
theorem op_procs (n : Nat) : Opn enc Tryd.prog W base sp hd (n + 3) 22 (fun c => [procsA c]) QN :=
  Opn.slice1 (bt := 24) (by kernel_rfl) (by kernel_rfl) (by kernel_rfl) (op_proc n)
theorem op_net (n : Nat) : Opn enc Tryd.prog W base sp hd n 24 (fun p : Int × Procs => [AI p.1, procsA p.2]) (fun p => i64 p.1 ∧ QN p.2) := by
  have hf := OpnF.cons (f := ⟨"Chans", 3, 0, false, "", "", 0⟩) (Opn.i64 (enc := enc) (P := Tryd.prog) (W := W) (base := base) (sp := sp) (hd := hd) (by kernel_rfl) n) rfl 1 (by kernel_rfl) (OpnF.cons (f := ⟨"Procs", 22, 1, false, "", "", 8⟩) ((op_procs n).mono (by omega)) rfl 1 (by kernel_rfl) OpnF.nil)
  refine ((Opn.struct (t := 24) (sz := 2) (fs := #[⟨"Chans", 3, 0, false, "", "", 0⟩, ⟨"Procs", 22, 1, false, "", "", 8⟩]) (by kernel_rfl) (by kernel_rfl) hf (by kernel_rfl)).mono (Nat.le_succ n)).map (fun p => (p.1, p.2.1)) (fun p => rfl) (fun p hp => ⟨hp.1, hp.2.1⟩)
theorem argNet {v : Value} {d : DataW H} {p : List MemPlace} (hval : Value.okWide Tryd.prog W .any base 24 v) (h : DataW.Trod enc Tryd.prog W 0 (fun _ => true) true 24 v d p) (hw : Wt Tryd.prog 24 d) :
    ∃ (n : Int) (c : Procs), i64 n ∧ ShortN c ∧ Rp (hOf W) (netA n c) v := by
  obtain ⟨⟨n, c⟩, ⟨h1, h2, h3⟩, h4⟩ := arg_struct (fs := #[⟨"Chans", 3, 0, false, "", "", 0⟩, ⟨"Procs", 22, 1, false, "", "", 8⟩]) (by kernel_rfl) op_net hval h hw
  unfold reachBytes at *
  refine ⟨n, c, h1, ⟨by simp only at h3; omega, fun p hp => ?_, fun p hp s hs => ?_⟩, h4⟩
  · have := (h2 p hp).2; unfold reachBytes at this; omega
  · have := ((h2 p hp).1 s hs).2; unfold reachBytes at this; omega
end
end Go.Proofs.YtgmeahcclogfmaaDoor
