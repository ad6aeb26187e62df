/-
  Texts R23h Q23p Q23q Q23m Q23j Q23f Q23k, in one. Conditions: as each theorem says.
-/
import Derived.Test.YtgmeahcclogfmaaGreatDoorM6
/-!
  Chapter 23: whether the ends of channels are paired, by the reference.
-/
namespace Go.Proofs.YtgmeahcclogfmaaGreatDoor
open Go Go.Tp
set_option linter.unusedVariables false
set_option linter.unusedSimpArgs false
set_option maxRecDepth 100000
set_option maxHeartbeats 4000000
abbrev endA (e : EN) : AV := .ag [AI e.b, AI e.c, AB e.out, AU8 e.item]
abbrev endsA (E : List EN) : AV := .sl 4 (E.map endA) none
def sameAt (E : List EN) (i j : Nat) : Bool := i != j && (match E[i]?, E[j]? with
  | some x, some y => y.c == x.c
  | _, _ => false)
def fitAt (E : List EN) (i j : Nat) : Bool := match E[i]?, E[j]? with
  | some x, some y => fitE y x
  | _, _ => false
def cntU (E : List EN) (i : Nat) : Nat → Nat
  | 0 => 0
  | j + 1 => cntU E i j + (if sameAt E i j then 1 else 0)
def okAt (E : List EN) (i : Nat) : Bool := ((List.range E.length).all fun j => !sameAt E i j || fitAt E i j) && cntU E i E.length == 1
def pairedB (E : List EN) : Bool := (List.range E.length).all (okAt E)
theorem cntU_le (E : List EN) (i : Nat) : ∀ j, cntU E i j ≤ j
  | 0 => Nat.le_refl _
  | j + 1 => by
    have := cntU_le E i j
    rw [cntU]; split <;> omega
theorem pairedB_no {E : List EN} {i : Nat} (hi : i < E.length) (h : okAt E i = false) : pairedB E = false := by
  cases hp : pairedB E with
  | false => rfl
  | true =>
    rw [pairedB, List.all_eq_true] at hp
    rw [hp i (List.mem_range.2 hi)] at h; cases h
theorem okAt_no {E : List EN} {i j : Nat} (hj : j < E.length) (hs : sameAt E i j = true) (hf : fitAt E i j = false) : okAt E i = false := by
  cases hp : okAt E i with
  | false => rfl
  | true =>
    rw [okAt, Bool.and_eq_true, List.all_eq_true] at hp
    have := hp.1 j (List.mem_range.2 hj)
    rw [hs, hf] at this; cases this
theorem paired_p (E : List EN) (hl : E.length ≤ 281474976710656) : Pure Tryz.prog gs0 21 [endsA E] (AB (pairedB E)) := by
  obtain ⟨R, hR⟩ : ∃ R, R = pairedB E := ⟨_, rfl⟩
  rw [← hR]
  refine Pure.of (S := tt) (fn := Tryz.f21) (n := 75) tt_ok Tryz.func21 rfl rfl rfl rfl fun w0 h0 F hgs => ?_
  (repeat refine A.s rfl ?_)
  refine A.keep [0, 3] rfl ?_
  refine A.loopP (ι := Nat) (fun i => (⟨[(0, endsA E), (3, AI (i : Nat))], []⟩, [])) (fun i => i ≤ E.length ∧ ∀ d, d < i → okAt E d = true) (fun i => E.length - i) 0 ⟨Nat.zero_le _, fun d hd => by omega⟩ rfl fun i hi ih => ?_
  obtain ⟨hi1, hi2⟩ := hi
  (repeat refine A.s rfl ?_)
  refine A.cond rfl (fun hc => ?_) (fun hc => ?_)
  · have hc : i < E.length := by simpa using hc
    refine Exists.elim (at_exN (l := E) (i := i) hc) fun x hx => ?_
    have hni : okAt E i = false → R = false := fun h => by rw [hR]; exact pairedB_no hc h
    (repeat refine A.s rfl ?_)
    refine A.keep [0, 3, 4, 5] rfl ?_
    refine A.loopP (ι := Nat) (fun j => (⟨[(0, endsA E), (3, AI (i : Nat)), (4, AI (cntU E i j : Nat)), (5, AI (j : Nat))], []⟩, [])) (fun j => j ≤ E.length ∧ ∀ d, d < j → (!sameAt E i d || fitAt E i d) = true) (fun j => E.length - j) 0 ⟨Nat.zero_le _, fun d hd => by omega⟩ rfl fun j hj jh => ?_
    obtain ⟨hj1, hj2⟩ := hj
    (repeat refine A.s rfl ?_)
    refine A.cond rfl (fun hc => ?_) (fun hc => ?_)
    · have hc' : j < E.length := by simpa using hc
      refine Exists.elim (at_exN (l := E) (i := j) hc') fun y hy => ?_
      have hsj : sameAt E i j = (i != j && y.c == x.c) := by unfold sameAt; rw [hx, hy]
      have hfj : fitAt E i j = fitE y x := by unfold fitAt; rw [hx, hy]
      have hcn := cntU_le E i j
      have hnx : (!sameAt E i j || fitAt E i j) = true → ∀ d, d < j + 1 → (!sameAt E i d || fitAt E i d) = true := fun h d hd => by
        by_cases e : d = j
        · subst e; exact h
        · exact hj2 d (by omega)
      refine Or.elim (Decidable.em (i = j)) (fun hij => ?_) (fun hij => ?_)
      · have hs0 : sameAt E i j = false := by rw [hsj, bne, beq_iff_eq.2 hij]; rfl
        have hnx := hnx (by rw [hs0]; rfl)
        (repeat refine A.s rfl ?_)
        refine A.draw 14 [0, 1, 2, 3, 4, 5, 6, 7, 8, 9, 10, 11, 12, 13] noPubs [] (by kernel_rfl) (by kernel_rfl) ?_
        (repeat refine WA.s rfl ?_)
        refine WA.valE 21 rfl (x' := AB true) (ab_eq (by show ((i : Int) == (j : Int)) = true; rw [beq_iff_eq, hij])) ?_
        (repeat refine WA.s rfl ?_)
        refine WA.nil (l := []) rfl ?_
        (repeat refine A.s rfl ?_)
        refine A.valE 4 rfl (x' := AI (cntU E i (j + 1) : Nat)) (by rw [cntU, hs0]; rfl) ?_
        skip
        refine A.valE 5 rfl (x' := AI ((j + 1 : Nat) : Int)) (inc_eq j (by omega)) ?_
        refine A.sub (by repeat (first | exact trivial | refine ⟨⟨_, rfl, .refl⟩, ?_⟩)) (jh (j + 1) ⟨by omega, hnx⟩ (by omega))
      have hne : (i != j) = true := by rw [bne, beq_eq_false_iff_ne.2 hij]; rfl
      rw [hne, Bool.true_and] at hsj
      (repeat refine A.s rfl ?_)
      refine A.draw 14 [0, 1, 2, 3, 4, 5, 6, 7, 8, 9, 10, 11, 12, 13] noPubs [] (by kernel_rfl) (by kernel_rfl) ?_
      (repeat refine WA.s rfl ?_)
      refine WA.valE 21 rfl (x' := AB false) (ab_eq (by show ((i : Int) == (j : Int)) = false; rw [beq_eq_false_iff_ne]; omega)) ?_
      (repeat refine WA.s rfl ?_)
      refine WA.x rfl (by show (0 : Int) ≤ (j : Nat); omega) (map_at hy) rfl rfl ?_
      (repeat refine WA.s rfl ?_)
      refine WA.x rfl (by show (0 : Int) ≤ (i : Nat); omega) (map_at hx) rfl rfl ?_
      (repeat refine WA.s rfl ?_)
      refine WA.nil (l := []) rfl ?_
      (repeat refine A.s rfl ?_)
      refine A.cond rfl (fun hc => ?_) (fun hc => ?_)
      · have hs0 : sameAt E i j = false := by rw [hsj]; have hc : (!(y.c == x.c)) = true := hc; simpa using hc
        have hnx := hnx (by rw [hs0]; rfl)
        refine A.valE 4 rfl (x' := AI (cntU E i (j + 1) : Nat)) (by rw [cntU, hs0]; rfl) ?_
        (repeat refine A.s rfl ?_)
        refine A.valE 5 rfl (x' := AI ((j + 1 : Nat) : Int)) (inc_eq j (by omega)) ?_
        refine A.sub (by repeat (first | exact trivial | refine ⟨⟨_, rfl, .refl⟩, ?_⟩)) (jh (j + 1) ⟨by omega, hnx⟩ (by omega))
      have hs1 : sameAt E i j = true := by rw [hsj]; have hc : (!(y.c == x.c)) = false := hc; simpa using hc
      have hno : fitE y x = false → R = false := fun h => hni (okAt_no hc' hs1 (by rw [hfj]; exact h))
      (repeat refine A.s rfl ?_)
      refine A.valE 4 rfl (x' := AI ((cntU E i j + 1 : Nat) : Int)) (inc_eq _ (by omega)) ?_
      refine A.valE 4 rfl (x' := AI (cntU E i (j + 1) : Nat)) (by rw [cntU, hs1]; rfl) ?_
      refine A.draw 35 [0, 1, 2, 3, 4, 5, 6, 7, 8, 9, 10, 11, 12, 13, 14, 15, 16, 17, 18, 19, 20, 21, 22, 23, 24, 25, 26, 27, 28, 29, 30, 31, 32, 33, 34] noPubs [] (by kernel_rfl) (by kernel_rfl) ?_
      (repeat refine WA.s rfl ?_)
      refine WA.x rfl (by show (0 : Int) ≤ (j : Nat); omega) (map_at hy) rfl rfl ?_
      (repeat refine WA.s rfl ?_)
      refine WA.x rfl (by show (0 : Int) ≤ (i : Nat); omega) (map_at hx) rfl rfl ?_
      (repeat refine WA.s rfl ?_)
      refine WA.gS rfl (fun hb => ?_) (fun hb => ?_)
      · have hb : (y.b == x.b) = true := hb
        rw [hno (by rw [fitE, bne, hb]; rfl)]
        (repeat refine WA.s rfl ?_)
        refine WA.nil (l := []) rfl ?_
        (repeat refine A.s rfl ?_); refine A.ret1 (Λ' := []) rfl rfl rfl (List.nil_sublist _) ⟨?_, rfl⟩; exact .refl
      have hb : (y.b == x.b) = false := hb
      (repeat refine WA.s rfl ?_)
      refine WA.x rfl (by show (0 : Int) ≤ (j : Nat); omega) (map_at hy) rfl rfl ?_
      (repeat refine WA.s rfl ?_)
      refine WA.x rfl (by show (0 : Int) ≤ (i : Nat); omega) (map_at hx) rfl rfl ?_
      (repeat refine WA.s rfl ?_)
      refine WA.gS rfl (fun ho => ?_) (fun ho => ?_)
      · have ho : (y.out == x.out) = true := ho
        rw [hno (by rw [fitE, bne, bne, hb, ho]; rfl)]
        (repeat refine WA.s rfl ?_)
        refine WA.nil (l := []) rfl ?_
        (repeat refine A.s rfl ?_); refine A.ret1 (Λ' := []) rfl rfl rfl (List.nil_sublist _) ⟨?_, rfl⟩; exact .refl
      have ho : (y.out == x.out) = false := ho
      (repeat refine WA.s rfl ?_)
      refine WA.x rfl (by show (0 : Int) ≤ (j : Nat); omega) (map_at hy) rfl rfl ?_
      (repeat refine WA.s rfl ?_)
      refine WA.x rfl (by show (0 : Int) ≤ (i : Nat); omega) (map_at hx) rfl rfl ?_
      (repeat refine WA.s rfl ?_)
      refine WA.nil (l := []) rfl ?_
      (repeat refine A.s rfl ?_)
      refine A.cond rfl (fun hc => ?_) (fun hc => ?_)
      · have hit : (!(y.item == x.item)) = true := hc
        rw [hno (by rw [fitE, show (y.item == x.item) = false by simpa using hit]; simp)]
        (repeat refine A.s rfl ?_); refine A.ret1 (Λ' := []) rfl rfl rfl (List.nil_sublist _) ⟨?_, rfl⟩; exact .refl
      have hit : (!(y.item == x.item)) = false := hc
      have hnx := hnx (by rw [hfj, fitE, bne, bne, hb, ho, show (y.item == x.item) = true by simpa using hit]; simp)
      (repeat refine A.s rfl ?_)
      refine A.valE 5 rfl (x' := AI ((j + 1 : Nat) : Int)) (inc_eq j (by omega)) ?_
      refine A.sub (by repeat (first | exact trivial | refine ⟨⟨_, rfl, .refl⟩, ?_⟩)) (jh (j + 1) ⟨by omega, hnx⟩ (by omega))
    have hc' : ¬ j < E.length := by simpa using hc
    have hje : j = E.length := by omega
    refine A.valE 4 rfl (x' := AI (cntU E i E.length : Nat)) (by rw [hje]) ?_
    (repeat refine A.s rfl ?_)
    refine A.cond rfl (fun hc => ?_) (fun hc => ?_)
    · have hcn : (!(((cntU E i E.length : Nat) : Int) == 1)) = true := hc
      rw [hni (by
        have : (cntU E i E.length == 1) = false := by
          rw [beq_eq_false_iff_ne]; intro h; rw [h] at hcn; cases hcn
        rw [okAt, this, Bool.and_false])]
      (repeat refine A.s rfl ?_); refine A.ret1 (Λ' := []) rfl rfl rfl (List.nil_sublist _) ⟨?_, rfl⟩; exact .refl
    have hcn : (!(((cntU E i E.length : Nat) : Int) == 1)) = false := hc
    have hok : okAt E i = true := by
      rw [okAt, Bool.and_eq_true, List.all_eq_true]
      refine ⟨fun d hd => hj2 d (by have := List.mem_range.1 hd; omega), ?_⟩
      simp at hcn
      rw [beq_iff_eq]; omega
    have hnx : ∀ d, d < i + 1 → okAt E d = true := fun d hd => by
      by_cases e : d = i
      · subst e; exact hok
      · exact hi2 d (by omega)
    (repeat refine A.s rfl ?_)
    refine A.valE 3 rfl (x' := AI ((i + 1 : Nat) : Int)) (inc_eq i (by omega)) ?_
    refine A.sub (by repeat (first | exact trivial | refine ⟨⟨_, rfl, .refl⟩, ?_⟩)) (ih (i + 1) ⟨by omega, hnx⟩ (by omega))
  have hc' : ¬ i < E.length := by simpa using hc
  have hyes : R = true := by
    rw [hR, pairedB, List.all_eq_true]
    exact fun d hd => hi2 d (by have := List.mem_range.1 hd; omega)
  rw [hyes]
  (repeat refine A.s rfl ?_); refine A.ret1 (Λ' := []) rfl rfl rfl (List.nil_sublist _) ⟨?_, rfl⟩; exact .refl
end Go.Proofs.YtgmeahcclogfmaaGreatDoor
/-!
  Chapter 23: the plain law of ranks: what the rounds compute, and that there is nothing else.
-/
namespace Go.Proofs.YtgmeahcclogfmaaGreatDoor
open Go Go.Tp
set_option linter.unusedVariables false
set_option linter.unusedSimpArgs false
abbrev Rk := Nat → Int
def rdy (s : Nat → W64) (done : W64) (x : Nat) : Bool := !(done.getLsbD x || (s x &&& ~~~done) != 0)
def rkD (s : Nat → W64) (x : Nat) (rk : Rk) (d : Nat) : Rk := if (s x).getLsbD d then upd rk x (max (rk x) (w64 (rk d + 1))) else rk
abbrev RkS := Rk × W64 × Int
def rkX (s : Nat → W64) (n : Nat) (done : W64) (st : RkS) (x : Nat) : RkS :=
  if rdy s done x then ((List.range n).foldl (rkD s x) st.1, st.2.1 ||| bitW x, st.2.2 - 1) else st
def rkXs (s : Nat → W64) (n : Nat) (done : W64) (rk : Rk) (left : Int) (m : Nat) : RkS := (List.range m).foldl (rkX s n done) (rk, 0, left)
def kahnR (s : Nat → W64) (n : Nat) : Nat → Rk → W64 → Int → Option Rk
  | 0, rk, _, _ => some rk
  | f + 1, rk, done, left => if left ≤ 0 then some rk else
    if (rkXs s n done rk left n).2.2 = left then none else
      kahnR s n f (rkXs s n done rk left n).1 (done ||| (rkXs s n done rk left n).2.1) (rkXs s n done rk left n).2.2
def kahn (s : Nat → W64) (n : Nat) : Option Rk := kahnR s n n (fun _ => 0) 0 n
theorem rkXs_zero (s : Nat → W64) (n : Nat) (done : W64) (rk : Rk) (left : Int) : rkXs s n done rk left 0 = (rk, 0, left) := rfl
theorem rkXs_succ (s : Nat → W64) (n : Nat) (done : W64) (rk : Rk) (left : Int) (m : Nat) : rkXs s n done rk left (m + 1) = rkX s n done (rkXs s n done rk left m) m := by
  rw [rkXs, List.range_succ, List.foldl_append]; rfl
theorem rkXs_left (s : Nat → W64) (n : Nat) (done : W64) (rk : Rk) (left : Int) (m : Nat) : left - m ≤ (rkXs s n done rk left m).2.2 ∧ (rkXs s n done rk left m).2.2 ≤ left := by
  induction m with
  | zero => rw [rkXs_zero]; simp
  | succ m ih =>
    rw [rkXs_succ, rkX]
    split
    · simp only; omega
    · omega
/-! ### folds -/
def mxF (q : Nat → Bool) (v : Nat → Int) (l : List Nat) (a : Int) : Int := l.foldl (fun u d => if q d then max u (v d) else u) a
/-! ### one round -/
def newR (s : Nat → W64) (n : Nat) (rk : Rk) (y : Nat) : Int := mxF (fun d => (s y).getLsbD d) (fun d => w64 (rk d + 1)) (List.range n) (rk y)
/-! ### all rounds -/
structure KI (s : Nat → W64) (n : Nat) (rk : Rk) (done : W64) (left : Int) (r : Int) : Prop where
  dn : ∀ x, done.getLsbD x = true → x < n ∧ 0 ≤ rk x ∧ rk x < r ∧ (∀ d, (s x).getLsbD d = true → done.getLsbD d = true ∧ rk d < rk x) ∧ (rk x = 0 ∨ ∃ d, (s x).getLsbD d = true ∧ rk x = rk d + 1)
  un : ∀ x, done.getLsbD x = false → rk x = 0
  lf : left = ((List.range n).countP fun x => !done.getLsbD x : Nat)
  r0 : 0 ≤ r
  rr : r + left ≤ n
def Rise (s : Nat → W64) (n : Nat) (g : Nat → Int) : Prop := ∀ d x, d < n → x < n → (s x).getLsbD d = true → g d < g x
structure IsRank (s : Nat → W64) (n : Nat) (rk : Rk) : Prop where
  lo : ∀ x, x < n → 0 ≤ rk x ∧ rk x < n
  up : Rise s n rk
  by1 : ∀ x, x < n → rk x = 0 ∨ ∃ d, d < n ∧ (s x).getLsbD d = true ∧ rk x = rk d + 1
end Go.Proofs.YtgmeahcclogfmaaGreatDoor
/-!
  Chapter 23: the plain law of ways along preceding channels, and of the waiting cycle.
-/
namespace Go.Proofs.YtgmeahcclogfmaaGreatDoor
open Go Go.Tp
set_option linter.unusedVariables false
set_option linter.unusedSimpArgs false
inductive Way (s : Nat → W64) (to : Nat) : Nat → Nat → Prop
  | one {x : Nat} : (s x).getLsbD to = true → Way s to x 1
  | more {x y k : Nat} : (s x).getLsbD y = true → Way s to y k → Way s to x (k + 1)
theorem Way.pos {s : Nat → W64} {to x k : Nat} (h : Way s to x k) : 1 ≤ k := by cases h <;> omega
structure Least (s : Nat → W64) (to x k : Nat) : Prop where
  way : Way s to x k
  le : ∀ m, Way s to x m → k ≤ m
def Fr (s : Nat → W64) (to k y : Nat) : Prop := (k = 1 ∧ y = to) ∨ (2 ≤ k ∧ Least s to y (k - 1))
structure FI (s : Nat → W64) (to : Nat) (n : Nat → Int) (w : W64) (k : Nat) : Prop where
  zero : ∀ x, x < 64 → n x = 0 → ∀ m, Way s to x m → k ≤ m
  some : ∀ x, x < 64 → n x ≠ 0 → ∃ m : Nat, n x = m ∧ Least s to x m ∧ m < k
  fr : ∀ y, y < 64 → (w.getLsbD y = true ↔ Fr s to k y)
  k1 : 1 ≤ k
theorem and_ne {a b : W64} : a &&& b ≠ 0 ↔ ∃ y, a.getLsbD y = true ∧ b.getLsbD y = true := by
  rw [Ne, bv_zero]
  constructor
  · intro h
    apply Classical.byContradiction
    intro hn
    apply h
    intro x hx
    rw [BitVec.getLsbD_and]
    cases h1 : a.getLsbD x
    · rfl
    · cases h2 : b.getLsbD x
      · rfl
      · exact (hn ⟨x, h1, h2⟩).elim
  · rintro ⟨y, h1, h2⟩ h
    have := h y (BitVec.lt_of_getLsbD h1)
    rw [BitVec.getLsbD_and, h1, h2] at this
    cases this
theorem newB_iff {s : Nat → W64} {w : W64} {n : Nat → Int} {x : Nat} : newB s w n x = true ↔ n x = 0 ∧ ∃ y, (s x).getLsbD y = true ∧ w.getLsbD y = true := by
  unfold newB
  rw [Bool.and_eq_true, beq_iff_eq, bne_iff_ne, and_ne]
theorem FI.start {s : Nat → W64} {to : Nat} (ht : to < 64) : FI s to (fun _ => 0) (bitW to) 1 where
  zero := fun x hx _ m hm => hm.pos
  some := fun x hx h => (h rfl).elim
  fr := fun y hy => by
    rw [bitW_get _ _ ht, decide_eq_true_iff]
    constructor
    · intro h; exact .inl ⟨rfl, h⟩
    · rintro (h | h)
      · exact h.2
      · omega
  k1 := Nat.le_refl _
theorem FI.new {s : Nat → W64} {to : Nat} {n : Nat → Int} {w : W64} {k : Nat} (I : FI s to n w k) {x : Nat} (hx : x < 64) (h : newB s w n x = true) : n x = 0 ∧ Least s to x k := by
  obtain ⟨h0, y, h1, h2⟩ := newB_iff.1 h
  have hy := BitVec.lt_of_getLsbD h1
  refine ⟨h0, ?_, I.zero x hx h0⟩
  rcases (I.fr y hy).1 h2 with ⟨rfl, rfl⟩ | ⟨hk, hl⟩
  · exact .one h1
  · have := Way.more h1 hl.way
    rw [show k - 1 + 1 = k by omega] at this
    exact this
theorem FI.not {s : Nat → W64} {to : Nat} {n : Nat → Int} {w : W64} {k : Nat} (ht : to < 64) (I : FI s to n w k) {x : Nat} (hx : x < 64) (h0 : n x = 0) (h : newB s w n x = false) {m : Nat} (hm : Way s to x m) : k + 1 ≤ m := by
  have hk := I.zero x hx h0 m hm
  apply Classical.byContradiction
  intro hn
  have hmk : m = k := by omega
  subst hmk
  have hnew : newB s w n x = true := by
    rw [newB_iff]
    refine ⟨h0, ?_⟩
    cases hm with
    | one h1 => exact ⟨to, h1, (I.fr to ht).2 (.inl ⟨rfl, rfl⟩)⟩
    | @more _ y k' h1 h2 =>
      have hy := BitVec.lt_of_getLsbD h1
      refine ⟨y, h1, (I.fr y hy).2 (.inr ⟨by have := h2.pos; omega, ?_⟩)⟩
      by_cases hny : n y = 0
      · have := I.zero y hy hny _ h2; omega
      · obtain ⟨m', e, l, hlt⟩ := I.some y hy hny
        have h3 := l.le _ h2
        have h4 := I.zero x hx h0 _ (Way.more h1 l.way)
        have : m' = k' := by omega
        subst this
        exact l
  rw [h] at hnew
  cases hnew
theorem FI.round {s : Nat → W64} {to : Nat} {n : Nat → Int} {w : W64} {k : Nat} (ht : to < 64) (I : FI s to n w k) : FI s to (cutU (newB s w n) (k : Nat) n 64) (orB (newB s w n) 64) (k + 1) := by
  have hk1 := I.k1
  have hcut : ∀ x, x < 64 → cutU (newB s w n) (k : Nat) n 64 x = if newB s w n x = true then (k : Int) else n x := fun x hx => by
    simp only [cutU, hx, decide_true, Bool.true_and]
  refine ⟨fun x hx h0 m hm => ?_, fun x hx hne => ?_, fun y hy => ?_, by omega⟩
  · rw [hcut x hx] at h0
    split at h0
    · omega
    · rename_i hb
      exact I.not ht hx h0 (by simpa using hb) hm
  · rw [hcut x hx] at hne ⊢
    split
    · rename_i hb
      exact ⟨k, rfl, (I.new hx hb).2, by omega⟩
    · rename_i hb
      rw [if_neg hb] at hne
      obtain ⟨m, e, l, hlt⟩ := I.some x hx hne
      exact ⟨m, e, l, by omega⟩
  · rw [orB_get _ 64 (Nat.le_refl _)]
    simp only [hy, decide_true, Bool.true_and]
    constructor
    · intro hb
      exact .inr ⟨by omega, by rw [Nat.add_sub_cancel]; exact (I.new hy hb).2⟩
    · rintro (⟨h, _⟩ | ⟨_, l⟩)
      · omega
      · rw [Nat.add_sub_cancel] at l
        cases hb : newB s w n y with
        | true => rfl
        | false =>
          by_cases hny : n y = 0
          · have := I.not ht hy hny hb l.way; omega
          · obtain ⟨m, e, l', hlt⟩ := I.some y hy hny
            have := l'.le _ l.way
            have := l.le _ l'.way
            omega
theorem FI.fin {s : Nat → W64} {to : Nat} {n : Nat → Int} {k : Nat} (ht : to < 64) (I : FI s to n 0 k) : ∀ m x, x < 64 → Way s to x m → n x ≠ 0 := by
  intro m
  induction m with
  | zero => intro x hx hw; have := hw.pos; omega
  | succ m ih =>
    intro x hx hw h0
    have hk := I.zero x hx h0 _ hw
    have hb : newB s 0 n x = false := by simp [newB]
    have hk2 := I.not ht hx h0 hb hw
    have hk1 := I.k1
    cases hw with
    | one h1 => omega
    | @more _ y _ h1 h2 =>
      have hy := BitVec.lt_of_getLsbD h1
      obtain ⟨m', e, l, hlt⟩ := I.some y hy (ih y hy h2)
      have h4 := I.not ht hx h0 hb (Way.more h1 l.way)
      omega
def DistV (s : Nat → W64) (to x : Nat) (v : Int) : Prop := (v = 0 ∧ ∀ m, ¬ Way s to x m) ∨ ∃ m : Nat, v = m ∧ Least s to x m ∧ m ≤ 66
theorem farR_spec {s : Nat → W64} {to : Nat} (ht : to < 64) : ∀ (f : Nat) (n : Nat → Int) (w : W64) (k : Nat), FI s to n w k → (w ≠ 0 → zeros n + 1 ≤ f) → f + k = 67 → ∀ x, x < 64 → DistV s to x (farR s f n w (k : Nat) x)
  | f, n, w, k, I, hz, hf, x, hx => by
    by_cases hw : w = 0
    · subst hw
      rw [farR_zero]
      by_cases h0 : n x = 0
      · exact .inl ⟨h0, fun m hm => I.fin ht m x hx hm h0⟩
      · obtain ⟨m, e, l, hlt⟩ := I.some x hx h0
        exact .inr ⟨m, e, l, by omega⟩
    · match f, hz hw with
      | f + 1, hz1 =>
        rw [farR, if_neg hw]
        have hk1 := I.k1
        have := farR_spec ht f _ _ (k + 1) (I.round ht) (fun h => by have := zeros_lt (k := (k : Int)) (by omega) h; omega) (by omega) x hx
        exact this
theorem far_spec {s : Nat → W64} {to : Nat} (ht : to < 64) {x : Nat} (hx : x < 64) : DistV s to x (farF s to x) := by
  have := farR_spec (s := s) ht 66 (fun _ => 0) (bitW to) 1 (FI.start ht) (fun _ => by have := zeros_le fun _ => 0; omega) rfl x hx
  exact this
/-! ### the waiting cycle -/
def bestS (s : Nat → W64) (st : Int × Int) (x : Nat) : Int × Int := if 0 < farF s x x ∧ (st.2 = 0 ∨ farF s x x < st.2) then ((x : Int), farF s x x) else st
def bestF (s : Nat → W64) (m : Nat) : Int × Int := (List.range m).foldl (bestS s) (-1, 0)
theorem bestF_succ (s : Nat → W64) (m : Nat) : bestF s (m + 1) = bestS s (bestF s m) m := by
  rw [bestF, List.range_succ, List.foldl_append]; rfl
structure Best (s : Nat → W64) (n f : Nat) (b : Int) : Prop where
  lt : f < n
  eq : farF s f f = b
  pos : 0 < b
  le : ∀ x, x < n → 0 < farF s x x → b ≤ farF s x x ∧ (farF s x x = b → f ≤ x)
theorem bestF_spec (s : Nat → W64) (m : Nat) : (bestF s m = (-1, 0) ∧ ∀ x, x < m → ¬ 0 < farF s x x) ∨ ∃ f : Nat, (bestF s m).1 = f ∧ Best s m f (bestF s m).2 := by
  induction m with
  | zero => exact .inl ⟨rfl, fun x hx => by omega⟩
  | succ m ih =>
    rw [bestF_succ, bestS]
    rcases ih with ⟨h1, h2⟩ | ⟨f, h1, h2⟩
    · rw [h1]
      by_cases hp : 0 < farF s m m
      · rw [if_pos ⟨hp, .inl rfl⟩]
        refine .inr ⟨m, rfl, by omega, rfl, hp, fun x hx hx0 => ?_⟩
        by_cases hxm : x = m
        · subst hxm; exact ⟨Int.le_refl _, fun _ => Nat.le_refl _⟩
        · exact (h2 x (by omega) hx0).elim
      · rw [if_neg (fun h => hp h.1)]
        refine .inl ⟨rfl, fun x hx hx0 => ?_⟩
        by_cases hxm : x = m
        · subst hxm; exact hp hx0
        · exact h2 x (by omega) hx0
    · right
      by_cases hp : 0 < farF s m m ∧ ((bestF s m).2 = 0 ∨ farF s m m < (bestF s m).2)
      · rw [if_pos hp]
        have hb := h2.pos
        refine ⟨m, rfl, by omega, rfl, hp.1, fun x hx hx0 => ?_⟩
        by_cases hxm : x = m
        · subst hxm; exact ⟨Int.le_refl _, fun _ => Nat.le_refl _⟩
        · have := h2.le x (by omega) hx0
          refine ⟨by simp only; omega, fun h => ?_⟩
          simp only at h
          omega
      · rw [if_neg hp]
        refine ⟨f, h1, by have := h2.lt; omega, h2.eq, h2.pos, fun x hx hx0 => ?_⟩
        by_cases hxm : x = m
        · subst hxm
          have h3 : ¬ farF s x x < (bestF s x).2 := fun h => hp ⟨hx0, .inr h⟩
          exact ⟨by omega, fun _ => Nat.le_of_lt h2.lt⟩
        · exact h2.le x (by omega) hx0
def nxtB (s : Nat → W64) (g : Nat → Int) (at1 : Nat) (v : Int) (d : Nat) : Bool := (s at1).getLsbD d && g d == v
def cycR (s : Nat → W64) (n : Nat) (g : Nat → Int) (best : Int) : Nat → Nat → Int → List Nat
  | 0, _, _ => []
  | f + 1, at1, len => if len < best then match (List.range n).find? (nxtB s g at1 (best - len)) with
      | some d => d :: cycR s n g best f d (len + 1)
      | none => []
    else []
def cycV (s : Nat → W64) (n : Nat) : Option (List Nat) := if (bestF s n).1 < 0 then none else
  some ((bestF s n).1.toNat :: cycR s n (farF s (bestF s n).1.toNat) (bestF s n).2 66 (bestF s n).1.toNat 1)
end Go.Proofs.YtgmeahcclogfmaaGreatDoor
/-!
  Chapter 23: the plain law of valid networks; what precedes.
-/
namespace Go.Proofs.YtgmeahcclogfmaaGreatDoor
open Go Go.Tp
set_option linter.unusedVariables false
set_option linter.unusedSimpArgs false
def useN (c : Procs) (x : Int) : Nat := (c.map fun p => p.flatten.count x).sum
structure FineP (n : Int) (p : List (List Int)) : Prop where
  ne : p ≠ []
  nes : ∀ s, s ∈ p → s ≠ []
  rng : ∀ x, x ∈ p.flatten → 0 ≤ x ∧ x < n
  nd : ∀ x, x ∈ p.flatten → p.flatten.count x ≤ 1
structure Valid (n : Int) (c : Procs) : Prop where
  g : mayG n c = true
  fine : ∀ p, p ∈ c → FineP n p
  two : ∀ i : Nat, i < 64 → useN c i = 0 ∨ useN c i = 2
/-! ### channels of a process -/
theorem chk_fold {n : Int} (hn : n ≤ 64) : ∀ (l : List Int) (met : W64) (u : Nat → Int) (k : Nat → Nat), (∀ i, i < 64 → u i = k i ∧ k i + l.length ≤ 1000) →
    match l.foldlM (chk n) (met, u) with
    | some st => (∀ x, x ∈ l → 0 ≤ x ∧ x < n ∧ met.getLsbD x.toNat = false ∧ l.count x ≤ 1) ∧ (∀ i, i < 64 → st.2 i = (k i + l.count (i : Int) : Nat))
    | none => ¬ ∀ x, x ∈ l → 0 ≤ x ∧ x < n ∧ met.getLsbD x.toNat = false ∧ l.count x ≤ 1
  | [], met, u, k, hk => ⟨fun x h => (by cases h), fun i hi => by show u i = _; rw [(hk i hi).1]; simp⟩
  | x :: l, met, u, k, hk => by
    rw [List.foldlM_cons]
    by_cases hx : x < 0 ∨ n ≤ x ∨ met.getLsbD x.toNat = true
    · rw [chk, if_pos hx]
      show ¬ _
      intro h
      obtain ⟨h1, h2, h3, _⟩ := h x (List.mem_cons_self ..)
      rcases hx with h | h | h
      · omega
      · omega
      · rw [h3] at h; cases h
    · rw [chk, if_neg hx]
      have hx0 : 0 ≤ x := by omega
      have hxn : x < n := by omega
      have hxm : met.getLsbD x.toNat = false := by
        cases h : met.getLsbD x.toNat
        · rfl
        · exact (hx (.inr (.inr h))).elim
      have ht : x.toNat < 64 := by omega
      have ih := chk_fold hn l (met ||| bitW x.toNat) (upd u x.toNat (w64 (u x.toNat + 1))) (fun i => if i = x.toNat then k i + 1 else k i) (fun i hi => by
        obtain ⟨h1, h2⟩ := hk i hi
        rw [List.length_cons] at h2
        unfold upd
        by_cases he : i = x.toNat
        · rw [if_pos he, if_pos he, ← he, h1]
          refine ⟨?_, by omega⟩
          have h3 : i64 ((k i : Int) + 1) := by unfold i64; omega
          exact (w64_id h3).trans (by push_cast; rfl)
        · rw [if_neg he, if_neg he]; exact ⟨h1, by omega⟩)
      show match (List.foldlM (chk n) (met ||| bitW x.toNat, upd u x.toNat (w64 (u x.toNat + 1))) l) with
        | some st => _
        | none => _
      revert ih
      have hm2 : ∀ y : Int, 0 ≤ y → (met ||| bitW x.toNat).getLsbD y.toNat = (met.getLsbD y.toNat || decide (y = x)) := fun y hy => by
        rw [BitVec.getLsbD_or, bitW_get _ _ ht]
        congr 1
        rw [Bool.eq_iff_iff]; simp; omega
      cases List.foldlM (chk n) (met ||| bitW x.toNat, upd u x.toNat (w64 (u x.toNat + 1))) l with
      | some st =>
        simp only
        rintro ⟨h1, h2⟩
        have hxl : x ∉ l := fun hm => by
          have := (h1 x hm).2.2.1
          rw [hm2 x hx0] at this
          simp at this
        refine ⟨fun y hy => ?_, fun i hi => ?_⟩
        · rcases List.mem_cons.1 hy with rfl | hy
          · refine ⟨hx0, hxn, hxm, ?_⟩
            rw [List.count_cons_self, List.count_eq_zero.2 hxl]; exact Nat.le_refl _
          · obtain ⟨q1, q2, q3, q4⟩ := h1 y hy
            rw [hm2 y q1] at q3
            simp only [Bool.or_eq_false_iff, decide_eq_false_iff_not] at q3
            refine ⟨q1, q2, q3.1, ?_⟩
            rw [List.count_cons_of_ne (fun e => q3.2 e.symm)]; exact q4
        · rw [h2 i hi]
          by_cases he : i = x.toNat
          · have : x = (i : Int) := by omega
            rw [if_pos he, this, List.count_cons_self]; omega
          · rw [if_neg he, List.count_cons_of_ne (by omega)]
      | none =>
        simp only
        intro h1 h
        apply h1
        intro y hy
        obtain ⟨q1, q2, q3, q4⟩ := h y (List.mem_cons_of_mem _ hy)
        have hxy : y ≠ x := by
          rintro rfl
          rw [List.count_cons_self] at q4
          have := List.count_pos_iff.2 hy
          omega
        refine ⟨q1, q2, ?_, ?_⟩
        · rw [hm2 y q1, q3]; simp [hxy]
        · rw [List.count_cons_of_ne (fun e => hxy e.symm)] at q4; exact q4
theorem step_fold (n : Int) : ∀ (p : List (List Int)) (st : W64 × (Nat → Int)), (∀ s, s ∈ p → s ≠ []) → p.foldlM (stepM n) st = p.flatten.foldlM (chk n) st
  | [], st, _ => rfl
  | s :: p, st, h => by
    rw [List.foldlM_cons, List.flatten_cons, List.foldlM_append, stepM, if_neg (h s (List.mem_cons_self ..))]
    show Option.bind _ _ = Option.bind _ _
    congr 1
    funext st'
    exact step_fold n p st' fun s' hs => h s' (List.mem_cons_of_mem _ hs)
theorem step_none (n : Int) : ∀ (p : List (List Int)) (st : W64 × (Nat → Int)), [] ∈ p → p.foldlM (stepM n) st = none
  | s :: p, st, h => by
    rw [List.foldlM_cons]
    by_cases hs : s = []
    · rw [stepM, if_pos hs]; rfl
    · show Option.bind _ _ = none
      rcases List.mem_cons.1 h with h | h
      · exact (hs h.symm).elim
      · cases stepM n st s with
        | none => rfl
        | some st' => exact step_none n p st' h
theorem proc_fold {n : Int} (hn : n ≤ 64) (p : List (List Int)) (u : Nat → Int) (k : Nat → Nat) (hk : ∀ i, i < 64 → u i = k i ∧ k i + p.flatten.length ≤ 1000) :
    match procM n u p with
    | some u' => FineP n p ∧ ∀ i, i < 64 → u' i = (k i + p.flatten.count (i : Int) : Nat)
    | none => ¬ FineP n p := by
  unfold procM
  by_cases hp : p = []
  · rw [if_pos hp]; exact fun h => h.ne hp
  rw [if_neg hp]
  by_cases hs : [] ∈ p
  · rw [step_none n p _ hs]; exact fun h => h.nes _ hs rfl
  have hs' : ∀ s, s ∈ p → s ≠ [] := fun s hm e => hs (e ▸ hm)
  rw [step_fold n p _ hs']
  have := chk_fold hn p.flatten 0 u k hk
  revert this
  cases p.flatten.foldlM (chk n) (0, u) with
  | some st =>
    simp only [Option.map_some]
    rintro ⟨h1, h2⟩
    exact ⟨⟨hp, hs', fun x hx => ⟨(h1 x hx).1, (h1 x hx).2.1⟩, fun x hx => (h1 x hx).2.2.2⟩, h2⟩
  | none =>
    simp only [Option.map_none]
    intro h1 h
    apply h1
    exact fun x hx => ⟨(h.rng x hx).1, (h.rng x hx).2, by simp, h.nd x hx⟩
def flatL (c : Procs) : Nat := (c.map fun p => p.flatten.length).sum
theorem net_fold {n : Int} (hn : n ≤ 64) : ∀ (c : Procs) (u : Nat → Int) (k : Nat → Nat), (∀ i, i < 64 → u i = k i ∧ k i + flatL c ≤ 1000) →
    match c.foldlM (procM n) u with
    | some u' => (∀ p, p ∈ c → FineP n p) ∧ ∀ i, i < 64 → u' i = (k i + useN c (i : Int) : Nat)
    | none => ¬ ∀ p, p ∈ c → FineP n p
  | [], u, k, hk => ⟨fun p h => (by cases h), fun i hi => by rw [(hk i hi).1]; simp [useN]⟩
  | p :: c, u, k, hk => by
    have hfl : flatL (p :: c) = p.flatten.length + flatL c := by simp [flatL]
    rw [List.foldlM_cons]
    have h1 := proc_fold hn p u k fun i hi => ⟨(hk i hi).1, by have := (hk i hi).2; rw [hfl] at this; omega⟩
    revert h1
    cases procM n u p with
    | none =>
      intro h1 h
      exact h1 (h p (List.mem_cons_self ..))
    | some u1 =>
      simp only
      rintro ⟨h1, h2⟩
      show match (c.foldlM (procM n) u1) with
        | some u' => _
        | none => _
      have ih := net_fold hn c u1 (fun i => k i + p.flatten.count (i : Int)) fun i hi => ⟨h2 i hi, by
        have := (hk i hi).2
        rw [hfl] at this
        have := List.count_le_length (a := (i : Int)) (l := p.flatten)
        omega⟩
      revert ih
      cases c.foldlM (procM n) u1 with
      | none =>
        intro h3 h
        exact h3 fun q hq => h q (List.mem_cons_of_mem _ hq)
      | some u' =>
        simp only
        rintro ⟨h3, h4⟩
        refine ⟨fun q hq => ?_, fun i hi => ?_⟩
        · rcases List.mem_cons.1 hq with rfl | hq
          · exact h1
          · exact h3 q hq
        · rw [h4 i hi]; simp only [useN, List.map_cons, List.sum_cons]; push_cast; omega
theorem sizeP_flat (p : List (List Int)) : p.flatten.length ≤ sizeP p := by
  induction p with
  | nil => simp [sizeP]
  | cons s p ih => rw [sizeP_cons, List.flatten_cons, List.length_append]; omega
theorem flatL_le (c : Procs) : flatL c ≤ sizeN c := by
  induction c with
  | nil => simp [flatL, sizeN]
  | cons p c ih =>
    rw [sizeN_cons]
    have := sizeP_flat p
    have : flatL (p :: c) = p.flatten.length + flatL c := by simp [flatL]
    omega
theorem mayB_iff {n : Int} {c : Procs} (hs : sizeN c ≤ 1000) : nmayB n c = true ↔ Valid n c := by
  unfold nmayB
  rw [Bool.and_eq_true]
  by_cases hg : mayG n c = true
  case neg => exact ⟨fun h => (hg h.1).elim, fun h => (hg h.g).elim⟩
  have hn : n ≤ 64 := by
    simp only [mayG, Bool.and_eq_true, decide_eq_true_eq] at hg; omega
  have := net_fold hn c (fun _ => 0) (fun _ => 0) fun i _ => ⟨rfl, by have := flatL_le c; omega⟩
  unfold mayU
  revert this
  cases c.foldlM (procM n) fun _ => 0 with
  | none =>
    intro h
    constructor
    · intro h1; exact absurd h1.2 (by simp [evenU])
    · intro h1; exact (h h1.fine).elim
  | some u =>
    simp only
    rintro ⟨h1, h2⟩
    have hev : evenU (some u) = true ↔ ∀ i : Nat, i < 64 → useN c (i : Int) = 0 ∨ useN c (i : Int) = 2 := by
      simp only [evenU, Bool.not_eq_true', List.any_eq_false, List.mem_map, List.mem_range]
      constructor
      · intro h i hi
        have := h (u i) ⟨i, hi, rfl⟩
        rw [h2 i hi] at this
        simp [oddUse] at this
        omega
      · rintro h x ⟨i, hi, rfl⟩
        rw [h2 i hi]
        have := h i hi
        simp [oddUse]
        omega
    exact ⟨fun h => ⟨hg, h1, hev.1 h.2⟩, fun h => ⟨hg, hev.2 h.two⟩⟩
theorem Valid.inB {n : Int} {c : Procs} (h : Valid n c) : InB c := fun p hp s hs x hx => by
  have h1 := (h.fine p hp).rng x (List.mem_flatten.2 ⟨s, hs, hx⟩)
  have h2 := h.g
  simp only [mayG, Bool.and_eq_true, decide_eq_true_eq] at h2
  omega
/-! ### what precedes -/
def preB (c : Procs) (d x : Int) : Bool := c.any fun p => (p.zip p.tail).any fun ab => ab.1.contains d && ab.2.contains x
theorem addX_bits (x d : Nat) (hd : d < 64) : ∀ (a : List Int), (∀ y, y ∈ a → 0 ≤ y ∧ y < 64) → ∀ (g : Nat → W64) (y : Nat), ((a.foldl (addD x) g) y).getLsbD d = ((g y).getLsbD d || (decide (y = x) && a.contains (d : Int)))
  | [], _, g, y => by simp
  | z :: a, h, g, y => by
    obtain ⟨z0, z1⟩ := h z (List.mem_cons_self ..)
    rw [List.foldl_cons, addX_bits x d hd a (fun w hw => h w (List.mem_cons_of_mem _ hw)), addD, upd]
    by_cases hy : y = x
    · subst hy
      have hz : decide (d = z.toNat) = (z == (d : Int)) := by rw [Bool.eq_iff_iff]; simp; omega
      have hz2 : ((d : Int) == z) = (z == (d : Int)) := by rw [Bool.eq_iff_iff]; simp; omega
      rw [if_pos rfl, BitVec.getLsbD_or, bitW_get _ _ (by omega), hz, List.contains_cons, hz2]
      cases (g y).getLsbD d <;> cases (z == (d : Int)) <;> simp
    · rw [if_neg hy]; simp [hy]
theorem addS_bits (a : List Int) (ha : ∀ y, y ∈ a → 0 ≤ y ∧ y < 64) (d : Nat) (hd : d < 64) : ∀ (b : List Int), (∀ y, y ∈ b → 0 ≤ y ∧ y < 64) → ∀ (g : Nat → W64) (y : Nat), ((b.foldl (addX a) g) y).getLsbD d = ((g y).getLsbD d || (a.contains (d : Int) && b.contains (y : Int)))
  | [], _, g, y => by simp
  | z :: b, h, g, y => by
    obtain ⟨z0, z1⟩ := h z (List.mem_cons_self ..)
    rw [List.foldl_cons, addS_bits a ha d hd b (fun w hw => h w (List.mem_cons_of_mem _ hw)), addX, addX_bits _ _ hd a ha]
    have hz : decide (y = z.toNat) = ((y : Int) == z) := by rw [Bool.eq_iff_iff]; simp; omega
    rw [hz, List.contains_cons]
    cases (g y).getLsbD d <;> cases ((y : Int) == z) <;> cases a.contains (d : Int) <;> simp
theorem addP_bits (d : Nat) (hd : d < 64) : ∀ (l : List (List Int × List Int)), (∀ ab, ab ∈ l → (∀ y, y ∈ ab.1 → 0 ≤ y ∧ y < 64) ∧ (∀ y, y ∈ ab.2 → 0 ≤ y ∧ y < 64)) → ∀ (g : Nat → W64) (y : Nat),
    ((l.foldl addS g) y).getLsbD d = ((g y).getLsbD d || l.any fun ab => ab.1.contains (d : Int) && ab.2.contains (y : Int))
  | [], _, g, y => by simp
  | ab :: l, h, g, y => by
    obtain ⟨h1, h2⟩ := h ab (List.mem_cons_self ..)
    rw [List.foldl_cons, addP_bits d hd l (fun w hw => h w (List.mem_cons_of_mem _ hw)), addS, addS_bits _ h1 d hd _ h2, List.any_cons, Bool.or_assoc]
theorem net_bits (d : Nat) (hd : d < 64) : ∀ (c : Procs), InB c → ∀ (g : Nat → W64) (y : Nat), ((c.foldl addP g) y).getLsbD d = ((g y).getLsbD d || preB c d y)
  | [], _, g, y => by simp [preB]
  | p :: c, h, g, y => by
    rw [List.foldl_cons, net_bits d hd c (fun q hq => h q (List.mem_cons_of_mem _ hq)), addP, addP_bits d hd _ fun ab hab => ?_, preB, preB, List.any_cons, Bool.or_assoc]
    have hp := h p (List.mem_cons_self ..)
    exact ⟨hp _ (List.of_mem_zip hab).1, hp _ (List.mem_of_mem_tail (List.of_mem_zip hab).2)⟩
theorem before_bits {c : Procs} (h : InB c) (d x : Nat) (hd : d < 64) : (beforeF c x).getLsbD d = preB c d x := by
  rw [beforeF, net_bits d hd c h]; simp
theorem preB_lt {n : Int} {c : Procs} (h : Valid n c) {d x : Int} (hp : preB c d x = true) : (0 ≤ d ∧ d < n) ∧ 0 ≤ x ∧ x < n := by
  simp only [preB, List.any_eq_true, Bool.and_eq_true, List.contains_iff_mem] at hp
  obtain ⟨p, hp, ab, hab, h1, h2⟩ := hp
  have hm := List.of_mem_zip hab
  exact ⟨(h.fine p hp).rng d (List.mem_flatten.2 ⟨_, hm.1, h1⟩), (h.fine p hp).rng x (List.mem_flatten.2 ⟨_, List.mem_of_mem_tail hm.2, h2⟩)⟩
theorem before_lt {n : Nat} {c : Procs} (h : Valid n c) (x d : Nat) (hb : (beforeF c x).getLsbD d = true) : d < n := by
  rw [before_bits h.inB d x (BitVec.lt_of_getLsbD hb)] at hb
  have := preB_lt h hb
  omega
end Go.Proofs.YtgmeahcclogfmaaGreatDoor
/-!
  Chapter 23: In, Precedes and uses of the reference.
-/
namespace Go.Proofs.YtgmeahcclogfmaaGreatDoor
open Go Go.Tp
set_option linter.unusedVariables false
set_option linter.unusedSimpArgs false
set_option maxRecDepth 100000
set_option maxHeartbeats 4000000
abbrev prePair (d x : Int) (ab : List Int × List Int) : Bool := ab.1.contains d && ab.2.contains x
abbrev preProc (d x : Int) (p : List (List Int)) : Bool := (p.zip p.tail).any (prePair d x)
theorem uses_p (p : List (List Int)) (x : Int) (hz : sizeP p ≤ 1000) : Pure Tryz.prog gs0 39 [procA p, AI x] (AI (p.flatten.count x : Nat)) := by
  have hpl : ((p.map rowI).length : Int) = p.length := by rw [List.length_map]
  have hpb : p.length ≤ sizeP p := by
    clear hpl
    induction p with
    | nil => simp [sizeP]
    | cons s p ih => rw [sizeP_cons] at hz ⊢; have := ih (by omega); rw [List.length_cons]; omega
  have htot : p.flatten.count x ≤ 1000 := by have := List.count_le_length (a := x) (l := p.flatten); have := sizeP_flat p; omega
  refine Pure.of (S := tt) (fn := Tryz.f39) (n := 35) tt_ok Tryz.func39 rfl rfl rfl rfl fun w0 h0 F hgs => ?_
  (repeat refine A.s rfl ?_)
  refine A.keep [0, 1, 5, 6] rfl ?_
  refine A.loopP (ι := Nat × Nat) (fun q => (⟨[(0, procA p), (1, AI x), (5, AI (q.2 : Nat)), (6, AI (q.1 : Nat))], []⟩, [])) (fun q => q.1 ≤ p.length ∧ q.2 + (p.drop q.1).flatten.count x = p.flatten.count x) (fun q => p.length - q.1) (0, 0) ⟨by simp, by simp⟩ rfl fun q hi ih => ?_
  obtain ⟨i, acc⟩ := q
  simp only at hi ih ⊢
  (repeat refine A.s rfl ?_)
  refine A.cond rfl (fun hc => ?_) (fun hc => ?_)
  · simp at hc
    refine Exists.elim (at_exN (l := p) (i := i) hc) fun s hs => ?_
    have hsl : ((s.map AI).length : Int) = s.length := by rw [List.length_map]
    have hsb := sizeP_mem (List.mem_of_getElem? hs)
    have h1 := hi.2
    rw [drop_at hs, List.flatten_cons, List.count_append] at h1
    (repeat refine A.s rfl ?_)
    refine A.keep [0, 1, 5, 6, 7] rfl ?_
    refine A.loopP (ι := Nat × Nat) (fun q => (⟨[(0, procA p), (1, AI x), (5, AI (q.2 : Nat)), (6, AI (i : Nat)), (7, AI (q.1 : Nat))], []⟩, [])) (fun q => q.1 ≤ s.length ∧ q.2 + (s.drop q.1).count x = acc + s.count x) (fun q => s.length - q.1) (0, acc) ⟨by simp, by simp⟩ rfl fun q hj jh => ?_
    obtain ⟨j, acc'⟩ := q
    simp only at hj jh ⊢
    (repeat refine A.s rfl ?_)
    refine A.x rfl (by omega) (map_at hs) rfl rfl ?_
    (repeat refine A.s rfl ?_)
    refine A.cond rfl (fun hc => ?_) (fun hc => ?_)
    · simp at hc
      refine Exists.elim (at_exN (l := s) (i := j) hc) fun y hy => ?_
      have h2 := hj.2
      rw [drop_at hy] at h2
      (repeat refine A.s rfl ?_)
      refine A.x rfl (by omega) (map_at hs) rfl rfl ?_
      (repeat refine A.s rfl ?_)
      refine A.x rfl (by omega) (map_at hy) rfl rfl ?_
      (repeat refine A.s rfl ?_)
      refine A.cond rfl (fun hc => ?_) (fun hc => ?_)
      · simp at hc
        subst hc
        rw [List.count_cons_self] at h2
        (repeat refine A.s rfl ?_)
        refine A.valE 5 rfl (x' := AI ((acc' + 1 : Nat) : Int)) (inc_eq acc' (by omega)) ?_
        refine A.valE 7 rfl (x' := AI ((j + 1 : Nat) : Int)) (inc_eq j (by omega)) ?_
        refine A.sub (by repeat (first | exact trivial | refine ⟨⟨_, rfl, .refl⟩, ?_⟩)) (jh (j + 1, acc' + 1) ⟨by simp only; omega, by simp only; omega⟩ (by simp only; omega))
      · simp at hc
        rw [List.count_cons_of_ne hc] at h2
        (repeat refine A.s rfl ?_)
        refine A.valE 7 rfl (x' := AI ((j + 1 : Nat) : Int)) (inc_eq j (by omega)) ?_
        refine A.sub (by repeat (first | exact trivial | refine ⟨⟨_, rfl, .refl⟩, ?_⟩)) (jh (j + 1, acc') ⟨by simp only; omega, by simp only; omega⟩ (by simp only; omega))
    · simp at hc
      have hjl : j = s.length := by omega
      have h2 := hj.2
      rw [hjl, List.drop_length, List.count_nil] at h2
      (repeat refine A.s rfl ?_)
      refine A.valE 6 rfl (x' := AI ((i + 1 : Nat) : Int)) (inc_eq i (by omega)) ?_
      refine A.sub (by repeat (first | exact trivial | refine ⟨⟨_, rfl, .refl⟩, ?_⟩)) (ih (i + 1, acc') ⟨by simp only; omega, by simp only; omega⟩ (by simp only; omega))
  · simp at hc
    have hil : i = p.length := by omega
    have h1 := hi.2
    rw [hil, List.drop_length] at h1
    simp only [List.flatten_nil, List.count_nil, Nat.add_zero] at h1
    (repeat refine A.s rfl ?_); refine A.ret1 (Λ' := []) rfl rfl rfl (List.nil_sublist _) ⟨?_, rfl⟩; rw [← h1]; exact .refl
end Go.Proofs.YtgmeahcclogfmaaGreatDoor
/-!
  Chapter 23: Check of the program.
-/
namespace Go.Proofs.YtgmeahcclogfmaaGreatDoor
open Go Go.Tp
set_option linter.unusedVariables false
set_option linter.unusedSimpArgs false
set_option maxRecDepth 100000
set_option maxHeartbeats 4000000
def rkL (r : List Int) (i : Nat) : Int := r.getD i 0
theorem rkL_at {r : List Int} {i : Nat} {v : Int} (h : r[i]? = some v) : rkL r i = v := by rw [rkL, List.getD_eq_getElem?_getD, h]; rfl
def badB (s : Nat → W64) (r : List Int) (x d : Nat) : Bool := (s x).getLsbD d && decide (rkL r x ≤ rkL r d)
def risesB (s : Nat → W64) (r : List Int) (m : Nat) : Bool := (List.range m).all fun x => (List.range m).all fun d => !badB s r x d
def checkB (n : Int) (c : Procs) (r : List Int) : Bool := nmayB n c && (decide ((r.length : Int) = n) && risesB (beforeF c) r r.length)
theorem range_drop {m i : Nat} (h : i < m) : (List.range m).drop i = i :: (List.range m).drop (i + 1) := drop_at (List.getElem?_range h)
theorem range_end (m : Nat) : (List.range m).drop m = [] := List.drop_eq_nil_of_le (by rw [List.length_range]; exact Nat.le_refl _)
theorem mayG_n {n : Int} {c : Procs} (h : mayG n c = true) : 0 ≤ n ∧ n ≤ 64 := by
  simp only [mayG, Bool.and_eq_true, decide_eq_true_eq] at h; omega
theorem check_p (n : Int) (c : Procs) (r : List Int) (hs : ShortN c) (hz : sizeN c ≤ 1000) (hr : r.length ≤ 281474976710656) : Pure Tryz.prog gs0 12 [netA n c, rowI r] (AB (checkB n c r)) := by
  have hmay := nmay_p n c hs
  have hrl : ((r.map AI).length : Int) = r.length := by rw [List.length_map]
  cases hm : nmayB n c with
  | false =>
    rw [hm] at hmay
    refine Pure.of (S := tt) (fn := Tryz.f12) (n := 50) tt_ok Tryz.func12 rfl rfl rfl rfl fun w0 h0 F hgs => ?_
    (repeat first|refine A.s rfl ?_|refine A.r rfl rfl ?_|refine A.b rfl fun bx=>?_)
    refine A.c rfl hmay .refl ?_
    (repeat refine A.s rfl ?_); refine A.ret1 (Λ' := []) rfl rfl rfl (List.nil_sublist _) ⟨?_, rfl⟩; refine Sb.eq (ab_eq ?_); rw [checkB, hm]; rfl
  | true =>
  rw [hm] at hmay
  have hv := (mayB_iff hz).1 hm
  have hin := hv.inB
  have hn := mayG_n hv.g
  have hbef := before_p n c hs hin
  refine Pure.of (S := tt) (fn := Tryz.f12) (n := 50) tt_ok Tryz.func12 rfl rfl rfl rfl fun w0 h0 F hgs => ?_
  (repeat first|refine A.s rfl ?_|refine A.r rfl rfl ?_|refine A.b rfl fun bx=>?_)
  refine A.c rfl hmay .refl ?_
  (repeat first|refine A.s rfl ?_|refine A.r rfl rfl ?_)
  refine A.valE 17 rfl (x' := AB (!decide ((r.length : Int) = n))) (ab_eq (by rw [hrl, Bool.eq_iff_iff]; simp)) ?_
  refine A.cond rfl (fun hc => ?_) (fun hc => ?_)
  · simp at hc
    (repeat refine A.s rfl ?_); refine A.ret1 (Λ' := []) rfl rfl rfl (List.nil_sublist _) ⟨?_, rfl⟩; refine Sb.eq (ab_eq ?_); rw [checkB, show decide ((r.length : Int) = n) = false from decide_eq_false hc]; simp
  simp at hc
  have hrn : (r.length : Int) = n := hc
  have hr64 : r.length ≤ 64 := by omega
  (repeat refine A.s rfl ?_)
  refine A.r rfl rfl ?_
  refine A.c rfl hbef .refl ?_
  (repeat refine A.s rfl ?_)
  refine A.b rfl fun b1 => ?_
  refine A.headEq (.ag (setL fun _ => 0)) (by kernel_rfl) ?_
  refine A.wl rfl (set_one _) (arr_len _) (arr_len _) ?_
  (repeat refine A.s rfl ?_)
  refine A.valE 21 rfl (x' := AI (r.length : Nat)) (ai_eq (by rw [List.length_map])) ?_
  refine A.keep [1, 5, 21, 22] rfl ?_
  refine A.loopP (ι := Nat) (fun x => (⟨[(1, rowI r), (5, .v (.pointer (some ⟨b1, 0, none⟩))), (21, AI (r.length : Nat)), (22, AI (x : Nat))], []⟩, [.box b1 (.ag (setL (beforeF c))), .box _ (.ag [AI n, procsA c])]))
    (fun x => x ≤ r.length ∧ ((List.range r.length).drop x).all (fun x => (List.range r.length).all fun d => !badB (beforeF c) r x d) = risesB (beforeF c) r r.length) (fun x => r.length - x) 0 ⟨by omega, rfl⟩ rfl fun x hi ih => ?_
  (repeat refine A.s rfl ?_)
  refine A.cond rfl (fun hc => ?_) (fun hc => ?_)
  · simp at hc
    have h1 := hi.2
    rw [range_drop hc, List.all_cons] at h1
    refine Exists.elim (at_exN (l := r) (i := x) hc) fun vx hvx => ?_
    (repeat refine A.s rfl ?_)
    refine A.valE 26 rfl (x' := AI (r.length : Nat)) (ai_eq (by rw [List.length_map])) ?_
    refine A.keep [1, 5, 6, 21, 22, 26, 27] rfl ?_
    refine A.loopP (ι := Nat) (fun d => (⟨[(1, rowI r), (5, .v (.pointer (some ⟨b1, 0, none⟩))), (6, AI (x : Nat)), (21, AI (r.length : Nat)), (22, AI (x : Nat)), (26, AI (r.length : Nat)), (27, AI (d : Nat))], []⟩, [.box b1 (.ag (setL (beforeF c))), .box _ (.ag [AI n, procsA c])]))
      (fun d => d ≤ r.length ∧ ((List.range r.length).drop d).all (fun d => !badB (beforeF c) r x d) = (List.range r.length).all fun d => !badB (beforeF c) r x d) (fun d => r.length - d) 0 ⟨by omega, rfl⟩ rfl fun d hj jh => ?_
    (repeat refine A.s rfl ?_)
    refine A.cond rfl (fun hc => ?_) (fun hc => ?_)
    · simp at hc
      have h2 := hj.2
      rw [range_drop hc, List.all_cons] at h2
      refine Exists.elim (at_exN (l := r) (i := d) hc) fun vd hvd => ?_
      have hx64 : x < 64 := by omega
      have hd64 : d < 64 := by omega
      (repeat refine A.s rfl ?_)
      refine A.draw 16 [0, 1, 2, 3, 4, 5, 6, 7, 8, 9, 10, 11, 12, 13, 14, 15] noPubs [] (by kernel_rfl) (by kernel_rfl) ?_
      (repeat refine WA.s rfl ?_)
      refine WA.xa rfl (p := x) (by omega) (by omega) (off1 x) rfl ?_
      refine WA.ra rfl (range_at _ hx64) rfl ?_
      (repeat refine WA.s rfl ?_)
      refine WA.shift rfl rfl rfl rfl rfl rfl rfl (by omega) ?_
      refine WA.valE 34 rfl (x' := U64 (beforeF c x >>> d)) (u64_eq (ushr _ _ hd64)) ?_
      (repeat refine WA.s rfl ?_)
      refine WA.valE 37 rfl (x' := AB ((beforeF c x).getLsbD d)) (ab_eq (bit1 _ d)) ?_
      refine WA.split 37 rfl (fun hb => ?_) (fun hb => ?_)
      · (repeat refine WA.s rfl ?_)
        refine WA.x rfl (by omega) (map_at hvd) rfl rfl ?_
        (repeat refine WA.s rfl ?_)
        refine WA.x rfl (by omega) (map_at hvx) rfl rfl ?_
        (repeat refine WA.s rfl ?_)
        refine WA.nil (l := []) rfl ?_
        (repeat refine A.s rfl ?_)
        refine A.valE 47 rfl (x' := AB (badB (beforeF c) r x d)) (ab_eq (by rw [badB, hb, rkL_at hvx, rkL_at hvd]; rfl)) ?_
        refine A.cond rfl (fun hc => ?_) (fun hc => ?_)
        · rw [hc] at h2
          have h3 : risesB (beforeF c) r r.length = false := by rw [← h1, ← h2]; rfl
          (repeat refine A.s rfl ?_); refine A.ret1 (Λ' := []) rfl rfl rfl (List.nil_sublist _) ⟨?_, rfl⟩; refine Sb.eq (ab_eq ?_); rw [checkB, h3]; simp
        · rw [hc] at h2
          (repeat refine A.s rfl ?_)
          refine A.valE 27 rfl (x' := AI ((d + 1 : Nat) : Int)) (inc_eq d (by omega)) ?_
          refine A.sub (by repeat (first | exact trivial | refine ⟨⟨_, rfl, .refl⟩, ?_⟩)) (jh (d + 1) ⟨by omega, by rw [← h2]; simp⟩ (by omega))
      · (repeat refine WA.s rfl ?_)
        refine WA.nil (l := []) rfl ?_
        have h3 : badB (beforeF c) r x d = false := by rw [badB, hb]; rfl
        rw [h3] at h2
        (repeat refine A.s rfl ?_)
        refine A.valE 27 rfl (x' := AI ((d + 1 : Nat) : Int)) (inc_eq d (by omega)) ?_
        refine A.sub (by repeat (first | exact trivial | refine ⟨⟨_, rfl, .refl⟩, ?_⟩)) (jh (d + 1) ⟨by omega, by rw [← h2]; simp⟩ (by omega))
    · simp at hc
      have hdl : d = r.length := by omega
      have h2 := hj.2
      rw [hdl, range_end, List.all_nil] at h2
      rw [← h2, Bool.true_and] at h1
      (repeat refine A.s rfl ?_)
      refine A.valE 22 rfl (x' := AI ((x + 1 : Nat) : Int)) (inc_eq x (by omega)) ?_
      refine A.sub (by repeat (first | exact trivial | refine ⟨⟨_, rfl, .refl⟩, ?_⟩)) (ih (x + 1) ⟨by omega, h1⟩ (by omega))
  · simp at hc
    have hxl : x = r.length := by omega
    have h1 := hi.2
    rw [hxl, range_end, List.all_nil] at h1
    (repeat refine A.s rfl ?_); refine A.ret1 (Λ' := []) rfl rfl rfl (List.nil_sublist _) ⟨?_, rfl⟩; refine Sb.eq (ab_eq ?_); rw [checkB, ← h1, hm]; simp; omega
end Go.Proofs.YtgmeahcclogfmaaGreatDoor
/-!
  Chapter 23: May of the reference.
-/
namespace Go.Proofs.YtgmeahcclogfmaaGreatDoor
open Go Go.Tp
set_option linter.unusedVariables false
set_option linter.unusedSimpArgs false
set_option maxRecDepth 100000
set_option maxHeartbeats 4000000
theorem no_may {n : Int} {c : Procs} (hz : sizeN c ≤ 1000) (h : ¬ Valid n c) : nmayB n c = false := Bool.eq_false_iff.2 fun e => h ((mayB_iff hz).1 e)
theorem useN_cons (p : List (List Int)) (c : Procs) (x : Int) : useN (p :: c) x = p.flatten.count x + useN c x := by simp [useN]
theorem useN_le (c : Procs) (x : Int) : useN c x ≤ flatL c := by
  induction c with
  | nil => simp [useN, flatL]
  | cons p c ih =>
    have h1 := List.count_le_length (a := x) (l := p.flatten)
    have h2 : flatL (p :: c) = p.flatten.length + flatL c := by simp [flatL]
    rw [useN_cons]; omega
theorem useN_none {n : Int} {c : Procs} (h : ∀ p, p ∈ c → FineP n p) {x : Int} (hx : n ≤ x) : useN c x = 0 := by
  induction c with
  | nil => simp [useN]
  | cons p c ih =>
    rw [useN_cons, ih (fun q hq => h q (List.mem_cons_of_mem _ hq)), List.count_eq_zero.2]
    intro hm
    have := ((h p (List.mem_cons_self ..)).rng x hm).2
    omega
def okX (n : Int) (p : List (List Int)) (x : Int) : Prop := 0 ≤ x ∧ x < n ∧ p.flatten.count x ≤ 1
theorem fine_of {n : Int} {p : List (List Int)} (h0 : p ≠ []) (h : ∀ s, s ∈ p → s ≠ [] ∧ ∀ x, x ∈ s → okX n p x) : FineP n p where
  ne := h0
  nes := fun s hs => (h s hs).1
  rng := fun x hx => by
    obtain ⟨s, hs, hx⟩ := List.mem_flatten.1 hx
    exact ⟨((h s hs).2 x hx).1, ((h s hs).2 x hx).2.1⟩
  nd := fun x hx => by
    obtain ⟨s, hs, hx⟩ := List.mem_flatten.1 hx
    exact ((h s hs).2 x hx).2.2
theorem fine_ok {n : Int} {p : List (List Int)} (h : FineP n p) {s : List Int} (hs : s ∈ p) {x : Int} (hx : x ∈ s) : okX n p x := by
  have hm := List.mem_flatten.2 ⟨s, hs, hx⟩
  exact ⟨(h.rng x hm).1, (h.rng x hm).2, h.nd x hm⟩
theorem mem_upto {α : Type} {l : List α} {Q : α → Prop} (h : ∀ k x, k < l.length → l[k]? = some x → Q x) : ∀ x, x ∈ l → Q x := fun x hx => by
  obtain ⟨k, hk, e⟩ := List.mem_iff_getElem.1 hx
  exact h k x hk (by rw [List.getElem?_eq_getElem hk, e])
theorem upto_next {α : Type} {l : List α} {Q : α → Prop} {i : Nat} {y : α} (h : ∀ k x, k < i → l[k]? = some x → Q x) (hy : l[i]? = some y) (q : Q y) : ∀ k x, k < i + 1 → l[k]? = some x → Q x := fun k x hk hx => by
  by_cases hki : k = i
  · subst hki; rw [hy] at hx; injection hx with hx; subst hx; exact q
  · exact h k x (by omega) hx
theorem rmay_p (n : Int) (c : Procs) (hs : ShortN c) (hz : sizeN c ≤ 1000) : Pure Tryz.prog gs0 22 [netA n c] (AB (nmayB n c)) := by
  have hcl : ((c.map procA).length : Int) = c.length := by rw [List.length_map]
  by_cases hn0 : n < 0
  · have hno : ¬ Valid n c := fun h => by have := mayG_n h.g; omega
    refine Pure.of (S := tt) (fn := Tryz.f22) (n := 126) tt_ok Tryz.func22 rfl rfl rfl rfl fun w0 h0 F hgs => ?_
    (repeat first|refine A.s rfl ?_|refine A.r rfl rfl ?_|refine A.b rfl fun bx=>?_)
    refine A.valE 13 rfl (x' := AB true) (ab_eq (by simpa using hn0)) ?_
    ((repeat refine A.s rfl ?_); refine A.ret1 (Λ' := []) rfl rfl rfl (List.nil_sublist _) ⟨?_, rfl⟩; exact Sb.eq (ab_eq (no_may hz hno).symm))
  obtain ⟨m, rfl⟩ : ∃ m : Nat, n = m := ⟨n.toNat, by omega⟩
  by_cases g2 : (m : Int) ≤ 64
  case neg =>
    have hno : ¬ Valid m c := fun h => by have := mayG_n h.g; omega
    refine Pure.of (S := tt) (fn := Tryz.f22) (n := 126) tt_ok Tryz.func22 rfl rfl rfl rfl fun w0 h0 F hgs => ?_
    (repeat first|refine A.s rfl ?_|refine A.r rfl rfl ?_|refine A.b rfl fun bx=>?_)
    refine A.valE 13 rfl (x' := AB false) (ab_eq (by simp)) ?_
    skip
    refine A.valE 18 rfl (x' := AB true) (ab_eq (by simp; omega)) ?_
    ((repeat refine A.s rfl ?_); refine A.ret1 (Λ' := []) rfl rfl rfl (List.nil_sublist _) ⟨?_, rfl⟩; exact Sb.eq (ab_eq (no_may hz hno).symm))
  by_cases g3 : 1 ≤ c.length
  case neg =>
    have hno : ¬ Valid m c := fun h => by have := h.g; simp only [mayG, Bool.and_eq_true, decide_eq_true_eq] at this; omega
    refine Pure.of (S := tt) (fn := Tryz.f22) (n := 126) tt_ok Tryz.func22 rfl rfl rfl rfl fun w0 h0 F hgs => ?_
    (repeat first|refine A.s rfl ?_|refine A.r rfl rfl ?_|refine A.b rfl fun bx=>?_)
    refine A.valE 13 rfl (x' := AB false) (ab_eq (by simp)) ?_
    skip
    refine A.valE 18 rfl (x' := AB false) (ab_eq (by simp; omega)) ?_
    (repeat first|refine A.s rfl ?_|refine A.r rfl rfl ?_)
    refine A.valE 24 rfl (x' := AB true) (ab_eq (by simp; omega)) ?_
    ((repeat refine A.s rfl ?_); refine A.ret1 (Λ' := []) rfl rfl rfl (List.nil_sublist _) ⟨?_, rfl⟩; exact Sb.eq (ab_eq (no_may hz hno).symm))
  by_cases g4 : c.length ≤ 16
  case neg =>
    have hno : ¬ Valid m c := fun h => by have := h.g; simp only [mayG, Bool.and_eq_true, decide_eq_true_eq] at this; omega
    refine Pure.of (S := tt) (fn := Tryz.f22) (n := 126) tt_ok Tryz.func22 rfl rfl rfl rfl fun w0 h0 F hgs => ?_
    (repeat first|refine A.s rfl ?_|refine A.r rfl rfl ?_|refine A.b rfl fun bx=>?_)
    refine A.valE 13 rfl (x' := AB false) (ab_eq (by simp)) ?_
    skip
    refine A.valE 18 rfl (x' := AB false) (ab_eq (by simp; omega)) ?_
    (repeat first|refine A.s rfl ?_|refine A.r rfl rfl ?_)
    refine A.valE 24 rfl (x' := AB false) (ab_eq (by simp; omega)) ?_
    (repeat first|refine A.s rfl ?_|refine A.r rfl rfl ?_)
    refine A.valE 29 rfl (x' := AB true) (ab_eq (by simp; omega)) ?_
    ((repeat refine A.s rfl ?_); refine A.ret1 (Λ' := []) rfl rfl rfl (List.nil_sublist _) ⟨?_, rfl⟩; exact Sb.eq (ab_eq (no_may hz hno).symm))
  have hg : mayG m c = true := by simp only [mayG, Bool.and_eq_true, decide_eq_true_eq]; omega
  have hm64 : m ≤ 64 := by omega
  refine Pure.of (S := tt) (fn := Tryz.f22) (n := 126) tt_ok Tryz.func22 rfl rfl rfl rfl fun w0 h0 F hgs => ?_
  (repeat first|refine A.s rfl ?_|refine A.r rfl rfl ?_|refine A.b rfl fun bx=>?_)
  refine A.valE 13 rfl (x' := AB false) (ab_eq (by simp)) ?_
  skip
  refine A.valE 18 rfl (x' := AB false) (ab_eq (by simp; omega)) ?_
  (repeat first|refine A.s rfl ?_|refine A.r rfl rfl ?_)
  refine A.valE 24 rfl (x' := AB false) (ab_eq (by simp; omega)) ?_
  (repeat first|refine A.s rfl ?_|refine A.r rfl rfl ?_)
  refine A.valE 29 rfl (x' := AB false) (ab_eq (by simp; omega)) ?_
  (repeat refine A.s rfl ?_)
  refine A.keep [1, 3] rfl ?_
  refine A.loopP (ι := Nat) (fun i => (⟨[(1, .v (.pointer (some ⟨_, 0, none⟩))), (3, AI (i : Nat))], []⟩, [.box _ (.ag [AI m, procsA c])]))
    (fun i => i ≤ c.length ∧ ∀ k p, k < i → c[k]? = some p → FineP m p) (fun i => c.length - i) 0 ⟨by omega, fun k p hk => by omega⟩ rfl fun i hi ih => ?_
  (repeat first|refine A.s rfl ?_|refine A.r rfl rfl ?_)
  refine A.cond rfl (fun hc => ?_) (fun hc => ?_)
  · simp at hc
    refine Exists.elim (at_exN (l := c) (i := i) hc) fun p hp => ?_
    have hpm : p ∈ c := List.mem_of_getElem? hp
    have hpl : ((p.map rowI).length : Int) = p.length := by rw [List.length_map]
    have hpb := hs.steps p hpm
    have hpz : sizeP p ≤ 1000 := by have := sizeN_mem hpm; omega
    (repeat first|refine A.s rfl ?_|refine A.r rfl rfl ?_)
    refine A.x rfl (by omega) (map_at hp) rfl rfl ?_
    (repeat refine A.s rfl ?_)
    refine A.cond rfl (fun hc => ?_) (fun hc => ?_)
    · simp at hc
      have hno : ¬ Valid m c := fun h => (h.fine p hpm).ne (List.eq_nil_of_length_eq_zero (by omega))
      ((repeat refine A.s rfl ?_); refine A.ret1 (Λ' := []) rfl rfl rfl (List.nil_sublist _) ⟨?_, rfl⟩; exact Sb.eq (ab_eq (no_may hz hno).symm))
    simp at hc
    have hpn : p ≠ [] := fun e => by rw [e] at hc; simp at hc
    (repeat refine A.s rfl ?_)
    refine A.keep [1, 3, 4] rfl ?_
    refine A.loopP (ι := Nat) (fun j => (⟨[(1, .v (.pointer (some ⟨_, 0, none⟩))), (3, AI (i : Nat)), (4, AI (j : Nat))], []⟩, [.box _ (.ag [AI m, procsA c])]))
      (fun j => j ≤ p.length ∧ ∀ k s, k < j → p[k]? = some s → s ≠ [] ∧ ∀ x, x ∈ s → okX m p x) (fun j => p.length - j) 0 ⟨by omega, fun k s hk => by omega⟩ rfl fun j hj jh => ?_
    (repeat first|refine A.s rfl ?_|refine A.r rfl rfl ?_)
    refine A.x rfl (by omega) (map_at hp) rfl rfl ?_
    (repeat refine A.s rfl ?_)
    refine A.cond rfl (fun hc => ?_) (fun hc => ?_)
    · simp at hc
      refine Exists.elim (at_exN (l := p) (i := j) hc) fun s hst => ?_
      have hsm : s ∈ p := List.mem_of_getElem? hst
      have hsl : ((s.map AI).length : Int) = s.length := by rw [List.length_map]
      have hsb := hs.uses p hpm s hsm
      (repeat first|refine A.s rfl ?_|refine A.r rfl rfl ?_)
      refine A.x rfl (by omega) (map_at hp) rfl rfl ?_
      (repeat refine A.s rfl ?_)
      refine A.x rfl (by omega) (map_at hst) rfl rfl ?_
      (repeat refine A.s rfl ?_)
      refine A.cond rfl (fun hc => ?_) (fun hc => ?_)
      · simp at hc
        have hno : ¬ Valid m c := fun h => (h.fine p hpm).nes s hsm (List.eq_nil_of_length_eq_zero (by omega))
        ((repeat refine A.s rfl ?_); refine A.ret1 (Λ' := []) rfl rfl rfl (List.nil_sublist _) ⟨?_, rfl⟩; exact Sb.eq (ab_eq (no_may hz hno).symm))
      simp at hc
      have hsn : s ≠ [] := fun e => by rw [e] at hc; simp at hc
      (repeat refine A.s rfl ?_)
      refine A.keep [1, 3, 4, 5, 6] rfl ?_
      refine A.loopP (ι := Nat) (fun k => (⟨[(1, .v (.pointer (some ⟨_, 0, none⟩))), (3, AI (i : Nat)), (4, AI (j : Nat)), (5, rowI s), (6, AI (k : Nat))], []⟩, [.box _ (.ag [AI m, procsA c])]))
        (fun k => k ≤ s.length ∧ ∀ k' x, k' < k → s[k']? = some x → okX m p x) (fun k => s.length - k) 0 ⟨by omega, fun k x hk => by omega⟩ rfl fun k hk kh => ?_
      (repeat refine A.s rfl ?_)
      refine A.cond rfl (fun hc => ?_) (fun hc => ?_)
      · simp at hc
        refine Exists.elim (at_exN (l := s) (i := k) hc) fun x hx => ?_
        have hxm : x ∈ s := List.mem_of_getElem? hx
        (repeat refine A.s rfl ?_)
        refine A.draw 24 [0, 1, 2, 3, 4, 5, 6, 7, 8, 9, 10, 11, 12, 13, 14, 15, 16, 17, 18, 19, 20, 21, 22, 23] noPubs [] (by kernel_rfl) (by kernel_rfl) ?_
        (repeat refine WA.s rfl ?_)
        refine WA.x rfl (by omega) (map_at hx) rfl rfl ?_
        (repeat refine WA.s rfl ?_)
        refine WA.gS rfl (fun hc => ?_) (fun hc => ?_)
        · simp at hc
          have hno : ¬ Valid m c := fun h => by have := (fine_ok (h.fine p hpm) hsm hxm).1; omega
          (repeat refine WA.s rfl ?_)
          refine WA.nil (l := []) rfl ?_
          ((repeat refine A.s rfl ?_); refine A.ret1 (Λ' := []) rfl rfl rfl (List.nil_sublist _) ⟨?_, rfl⟩; exact Sb.eq (ab_eq (no_may hz hno).symm))
        simp at hc
        have x0 := hc
        (repeat refine WA.s rfl ?_)
        refine WA.x rfl (by omega) (map_at hx) rfl rfl ?_
        (repeat first|refine WA.s rfl ?_|refine WA.r rfl rfl ?_)
        refine WA.gS rfl (fun hc => ?_) (fun hc => ?_)
        · simp at hc
          have hno : ¬ Valid m c := fun h => by have := (fine_ok (h.fine p hpm) hsm hxm).2.1; omega
          (repeat refine WA.s rfl ?_)
          refine WA.nil (l := []) rfl ?_
          ((repeat refine A.s rfl ?_); refine A.ret1 (Λ' := []) rfl rfl rfl (List.nil_sublist _) ⟨?_, rfl⟩; exact Sb.eq (ab_eq (no_may hz hno).symm))
        simp at hc
        have x1 := hc
        (repeat first|refine WA.s rfl ?_|refine WA.r rfl rfl ?_)
        refine WA.x rfl (by omega) (map_at hp) rfl rfl ?_
        (repeat refine WA.s rfl ?_)
        refine WA.x rfl (by omega) (map_at hx) rfl rfl ?_
        (repeat refine WA.s rfl ?_)
        refine WA.nil (l := []) rfl ?_
        skip
        refine A.c rfl (uses_p p x hpz) .refl ?_
        (repeat refine A.s rfl ?_)
        refine A.cond rfl (fun hc => ?_) (fun hc => ?_)
        · simp at hc
          have hno : ¬ Valid m c := fun h => by have := (fine_ok (h.fine p hpm) hsm hxm).2.2; omega
          ((repeat refine A.s rfl ?_); refine A.ret1 (Λ' := []) rfl rfl rfl (List.nil_sublist _) ⟨?_, rfl⟩; exact Sb.eq (ab_eq (no_may hz hno).symm))
        · simp at hc
          (repeat refine A.s rfl ?_)
          refine A.valE 6 rfl (x' := AI ((k + 1 : Nat) : Int)) (inc_eq k (by omega)) ?_
          refine A.sub (by repeat (first | exact trivial | refine ⟨⟨_, rfl, .refl⟩, ?_⟩)) (kh (k + 1) ⟨by omega, upto_next hk.2 hx ⟨x0, x1, by omega⟩⟩ (by omega))
      · simp at hc
        have hkl : k = s.length := by omega
        have h3 := hk.2
        rw [hkl] at h3
        (repeat refine A.s rfl ?_)
        refine A.valE 4 rfl (x' := AI ((j + 1 : Nat) : Int)) (inc_eq j (by omega)) ?_
        refine A.sub (by repeat (first | exact trivial | refine ⟨⟨_, rfl, .refl⟩, ?_⟩)) (jh (j + 1) ⟨by omega, upto_next hj.2 hst ⟨hsn, mem_upto h3⟩⟩ (by omega))
    · simp at hc
      have hjl : j = p.length := by omega
      have h2 := hj.2
      rw [hjl] at h2
      (repeat refine A.s rfl ?_)
      refine A.valE 3 rfl (x' := AI ((i + 1 : Nat) : Int)) (inc_eq i (by omega)) ?_
      refine A.sub (by repeat (first | exact trivial | refine ⟨⟨_, rfl, .refl⟩, ?_⟩)) (ih (i + 1) ⟨by omega, upto_next hi.2 hp (fine_of hpn (mem_upto h2))⟩ (by omega))
  simp at hc
  have hil : i = c.length := by omega
  have h1 := hi.2
  rw [hil] at h1
  have hfine : ∀ p, p ∈ c → FineP m p := mem_upto h1
  (repeat refine A.s rfl ?_)
  refine A.keep [1, 7] rfl ?_
  refine A.loopP (ι := Nat) (fun h => (⟨[(1, .v (.pointer (some ⟨_, 0, none⟩))), (7, AI (h : Nat))], []⟩, [.box _ (.ag [AI m, procsA c])]))
    (fun h => h ≤ m ∧ ∀ k : Nat, k < h → useN c (k : Int) = 0 ∨ useN c (k : Int) = 2) (fun h => m - h) 0 ⟨by omega, fun k hk => by omega⟩ rfl fun h hh hr => ?_
  (repeat first|refine A.s rfl ?_|refine A.r rfl rfl ?_)
  refine A.cond rfl (fun hc => ?_) (fun hc => ?_)
  · simp at hc
    (repeat refine A.s rfl ?_)
    refine A.keep [1, 7, 8, 9] rfl ?_
    refine A.loopP (ι := Nat × Nat) (fun q => (⟨[(1, .v (.pointer (some ⟨_, 0, none⟩))), (7, AI (h : Nat)), (8, AI (q.2 : Nat)), (9, AI (q.1 : Nat))], []⟩, [.box _ (.ag [AI m, procsA c])]))
      (fun q => q.1 ≤ c.length ∧ q.2 + useN (c.drop q.1) (h : Nat) = useN c (h : Nat)) (fun q => c.length - q.1) (0, 0) ⟨by simp, by simp⟩ rfl fun q hq qh => ?_
    obtain ⟨i2, acc⟩ := q
    simp only at hq qh ⊢
    (repeat first|refine A.s rfl ?_|refine A.r rfl rfl ?_)
    refine A.cond rfl (fun hc => ?_) (fun hc => ?_)
    · simp at hc
      refine Exists.elim (at_exN (l := c) (i := i2) hc) fun p hp => ?_
      have hpm : p ∈ c := List.mem_of_getElem? hp
      have hpz : sizeP p ≤ 1000 := by have := sizeN_mem hpm; omega
      have h2 := hq.2
      rw [drop_at hp, useN_cons] at h2
      have h3 := useN_le c (h : Nat)
      have h4 := flatL_le c
      (repeat first|refine A.s rfl ?_|refine A.r rfl rfl ?_)
      refine A.x rfl (by omega) (map_at hp) rfl rfl ?_
      (repeat refine A.s rfl ?_)
      refine A.c rfl (uses_p p (h : Nat) hpz) .refl ?_
      (repeat refine A.s rfl ?_)
      refine A.valE 8 rfl (x' := AI ((acc + p.flatten.count (h : Int) : Nat) : Int)) (ai_eq (by rw [w64_id (by unfold i64; omega)]; push_cast; rfl)) ?_
      refine A.valE 9 rfl (x' := AI ((i2 + 1 : Nat) : Int)) (inc_eq i2 (by omega)) ?_
      refine A.sub (by repeat (first | exact trivial | refine ⟨⟨_, rfl, .refl⟩, ?_⟩)) (qh (i2 + 1, acc + p.flatten.count (h : Int)) ⟨by simp only; omega, by simp only; omega⟩ (by simp only; omega))
    · simp at hc
      have hil2 : i2 = c.length := by omega
      have h2 := hq.2
      rw [hil2, List.drop_length] at h2
      have h2 : acc = useN c (h : Nat) := by rw [← h2]; simp [useN]
      (repeat refine A.s rfl ?_)
      ((fail_if_success (refine A.lit? rfl ?_)); refine A.gS rfl (fun hc => ?_) (fun hc => ?_))
      · simp at hc
        have a0 := hc
        (repeat refine A.s rfl ?_)
        refine A.cond rfl (fun hc => ?_) (fun hc => ?_)
        · simp at hc
          have hno : ¬ Valid m c := fun v => by have := v.two h (by omega); omega
          ((repeat refine A.s rfl ?_); refine A.ret1 (Λ' := []) rfl rfl rfl (List.nil_sublist _) ⟨?_, rfl⟩; exact Sb.eq (ab_eq (no_may hz hno).symm))
        · simp at hc
          (repeat refine A.s rfl ?_)
          refine A.valE 7 rfl (x' := AI ((h + 1 : Nat) : Int)) (inc_eq h (by omega)) ?_
          refine A.sub (by repeat (first | exact trivial | refine ⟨⟨_, rfl, .refl⟩, ?_⟩)) (hr (h + 1) ⟨by omega, fun k hk => ?_⟩ (by omega))
          by_cases hkh : k = h
          · subst hkh; right; omega
          · exact hh.2 k (by omega)
      · simp at hc
        (repeat refine A.s rfl ?_)
        refine A.valE 7 rfl (x' := AI ((h + 1 : Nat) : Int)) (inc_eq h (by omega)) ?_
        refine A.sub (by repeat (first | exact trivial | refine ⟨⟨_, rfl, .refl⟩, ?_⟩)) (hr (h + 1) ⟨by omega, fun k hk => ?_⟩ (by omega))
        by_cases hkh : k = h
        · subst hkh; left; omega
        · exact hh.2 k (by omega)
  · simp at hc
    have hhm : h = m := by omega
    have h2 := hh.2
    rw [hhm] at h2
    have hval : Valid m c := ⟨hg, hfine, fun k hk => by
      by_cases hkm : k < m
      · exact h2 k hkm
      · left; exact useN_none hfine (by omega)⟩
    (repeat refine A.s rfl ?_); refine A.ret1 (Λ' := []) rfl rfl rfl (List.nil_sublist _) ⟨?_, rfl⟩; refine Sb.eq (ab_eq ?_); rw [(mayB_iff hz).2 hval]
end Go.Proofs.YtgmeahcclogfmaaGreatDoor
