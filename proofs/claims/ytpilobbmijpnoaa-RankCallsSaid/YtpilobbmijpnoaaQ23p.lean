/-
  Chapter 23: the plain law of ranks: what the rounds compute, and that there is nothing else.
-/
import Derived.Test.YtpilobbmijpnoaaQ23d
namespace Go.Proofs.Ytpilobbmijpnoaa
open Go Go.Tp
set_option linter.unusedVariables false
set_option linter.unusedSimpArgs false

abbrev Rk := Nat → Int
def rdy (s : Nat → W64) (done : W64) (x : Nat) : Bool := !(done.getLsbD x || (s x &&& ~~~done) != 0)
def rkD (s : Nat → W64) (x : Nat) (rk : Rk) (d : Nat) : Rk := if (s x).getLsbD d then upd rk x (max (rk x) (w64 (rk d + 1))) else rk
abbrev RkS := Rk × W64 × Int
def rkX (s : Nat → W64) (n : Nat) (done : W64) (st : RkS) (x : Nat) : RkS :=
  if rdy s done x then ((List.range n).foldl (rkD s x) st.1, st.2.1 ||| bitW x, st.2.2 - 1) else st
def rkXs (s : Nat → W64) (n : Nat) (done : W64) (rk : Rk) (left : Int) (m : Nat) : RkS := (List.range m).foldl (rkX s n done) (rk, 0, left)
def kahnR (s : Nat → W64) (n : Nat) : Nat → Rk → W64 → Int → Option Rk
  | 0, rk, _, _ => some rk
  | f + 1, rk, done, left => if left ≤ 0 then some rk else
    if (rkXs s n done rk left n).2.2 = left then none else
      kahnR s n f (rkXs s n done rk left n).1 (done ||| (rkXs s n done rk left n).2.1) (rkXs s n done rk left n).2.2
def kahn (s : Nat → W64) (n : Nat) : Option Rk := kahnR s n n (fun _ => 0) 0 n
theorem rkXs_zero (s : Nat → W64) (n : Nat) (done : W64) (rk : Rk) (left : Int) : rkXs s n done rk left 0 = (rk, 0, left) := rfl
theorem rkXs_succ (s : Nat → W64) (n : Nat) (done : W64) (rk : Rk) (left : Int) (m : Nat) : rkXs s n done rk left (m + 1) = rkX s n done (rkXs s n done rk left m) m := by
  rw [rkXs, List.range_succ, List.foldl_append]; rfl
theorem rkXs_left (s : Nat → W64) (n : Nat) (done : W64) (rk : Rk) (left : Int) (m : Nat) : left - m ≤ (rkXs s n done rk left m).2.2 ∧ (rkXs s n done rk left m).2.2 ≤ left := by
  induction m with
  | zero => rw [rkXs_zero]; simp
  | succ m ih =>
    rw [rkXs_succ, rkX]
    split
    · simp only; omega
    · omega
/-! ### folds -/
def mxF (q : Nat → Bool) (v : Nat → Int) (l : List Nat) (a : Int) : Int := l.foldl (fun u d => if q d then max u (v d) else u) a
theorem mxF_spec (q : Nat → Bool) (v : Nat → Int) : ∀ (l : List Nat) (a : Int), a ≤ mxF q v l a ∧ (∀ d, d ∈ l → q d = true → v d ≤ mxF q v l a) ∧ (mxF q v l a = a ∨ ∃ d, d ∈ l ∧ q d = true ∧ mxF q v l a = v d)
  | [], a => ⟨Int.le_refl _, fun d h => (by cases h), .inl rfl⟩
  | x :: l, a => by
    obtain ⟨h1, h2, h3⟩ := mxF_spec q v l (if q x then max a (v x) else a)
    have he : mxF q v (x :: l) a = mxF q v l (if q x then max a (v x) else a) := rfl
    rw [he]
    cases hq : q x with
    | false =>
      simp only [hq, Bool.false_eq_true, if_false] at h1 h2 h3 ⊢
      refine ⟨h1, fun d hd hqd => ?_, ?_⟩
      · rcases List.mem_cons.1 hd with rfl | hd
        · rw [hq] at hqd; cases hqd
        · exact h2 d hd hqd
      · rcases h3 with h | ⟨d, hd, h⟩
        · exact .inl h
        · exact .inr ⟨d, List.mem_cons_of_mem _ hd, h⟩
    | true =>
      simp only [hq, if_true] at h1 h2 h3 ⊢
      refine ⟨by omega, fun d hd hqd => ?_, ?_⟩
      · rcases List.mem_cons.1 hd with rfl | hd
        · omega
        · exact h2 d hd hqd
      · rcases h3 with h | ⟨d, hd, h⟩
        · by_cases hm : v x ≤ a
          · exact .inl (by rw [h]; omega)
          · exact .inr ⟨x, List.mem_cons_self .., hq, by rw [h]; omega⟩
        · exact .inr ⟨d, List.mem_cons_of_mem _ hd, h⟩
theorem countP_split {α : Type} {p q r : α → Bool} : ∀ {l : List α}, (∀ x, x ∈ l → p x = (q x || r x) ∧ (q x && r x) = false) → l.countP p = l.countP q + l.countP r
  | [], _ => rfl
  | x :: l, h => by
    have ih := countP_split (p := p) (q := q) (r := r) (l := l) fun y hy => h y (List.mem_cons_of_mem _ hy)
    obtain ⟨h1, h2⟩ := h x (List.mem_cons_self ..)
    rw [List.countP_cons, List.countP_cons, List.countP_cons, ih, h1]
    cases hq : q x <;> cases hr : r x <;> simp [hq, hr] at h2 ⊢ <;> omega
theorem exists_min {α : Type} (g : α → Int) : ∀ (l : List α), l ≠ [] → ∃ x, x ∈ l ∧ ∀ y, y ∈ l → g x ≤ g y
  | [], h => (h rfl).elim
  | [x], _ => ⟨x, List.mem_cons_self .., fun y hy => by rw [List.mem_singleton.1 hy]; exact Int.le_refl _⟩
  | x :: z :: l, _ => by
    obtain ⟨w, hw, hm⟩ := exists_min g (z :: l) (by simp)
    by_cases h : g x ≤ g w
    · refine ⟨x, List.mem_cons_self .., fun y hy => ?_⟩
      rcases List.mem_cons.1 hy with rfl | hy
      · exact Int.le_refl _
      · exact Int.le_trans h (hm y hy)
    · refine ⟨w, List.mem_cons_of_mem _ hw, fun y hy => ?_⟩
      rcases List.mem_cons.1 hy with rfl | hy
      · omega
      · exact hm y hy
/-! ### one round -/
theorem rdy_iff {s : Nat → W64} {done : W64} {x : Nat} : rdy s done x = true ↔ done.getLsbD x = false ∧ ∀ d, (s x).getLsbD d = true → done.getLsbD d = true := by
  unfold rdy
  simp only [Bool.not_eq_true', Bool.or_eq_false_iff, bne_eq_false_iff_eq]
  rw [bv_zero]
  constructor
  · rintro ⟨h1, h2⟩
    refine ⟨h1, fun d hd => ?_⟩
    have hd64 : d < 64 := BitVec.lt_of_getLsbD hd
    have := h2 d hd64
    simp only [BitVec.getLsbD_and, BitVec.getLsbD_not, hd, hd64, decide_true, Bool.true_and] at this
    simpa using this
  · rintro ⟨h1, h2⟩
    refine ⟨h1, fun d hd => ?_⟩
    simp only [BitVec.getLsbD_and, BitVec.getLsbD_not, hd, decide_true, Bool.true_and]
    cases h : (s x).getLsbD d
    · rfl
    · rw [h2 d h]; rfl
def newR (s : Nat → W64) (n : Nat) (rk : Rk) (y : Nat) : Int := mxF (fun d => (s y).getLsbD d) (fun d => w64 (rk d + 1)) (List.range n) (rk y)
theorem mxF_succ (q : Nat → Bool) (v : Nat → Int) (m : Nat) (a : Int) : mxF q v (List.range (m + 1)) a = if q m then max (mxF q v (List.range m) a) (v m) else mxF q v (List.range m) a := by
  rw [mxF, List.range_succ, List.foldl_append]; rfl
theorem rkD_fold {s : Nat → W64} {x : Nat} {rk rk' : Rk} (hd : ∀ d, (s x).getLsbD d = true → d ≠ x ∧ rk' d = rk d) (hx : rk' x = rk x) (m : Nat) :
    (List.range m).foldl (rkD s x) rk' = upd rk' x (mxF (fun d => (s x).getLsbD d) (fun d => w64 (rk d + 1)) (List.range m) (rk x)) := by
  induction m with
  | zero => funext y; simp only [List.range_zero, List.foldl_nil, upd, mxF]; split <;> simp_all
  | succ m ih =>
    rw [mxF_succ, List.range_succ, List.foldl_append, ih, List.foldl_cons, List.foldl_nil, rkD]
    cases h : (s x).getLsbD m with
    | false => simp only [Bool.false_eq_true, if_false]
    | true =>
      simp only [if_true]
      obtain ⟨h1, h2⟩ := hd m h
      funext y
      simp only [upd, if_pos rfl, if_neg h1, h2]
      split <;> rfl
theorem round_eq {s : Nat → W64} {n : Nat} {done : W64} {rk : Rk} {left : Int} (m : Nat) (hm : m ≤ 64) :
    rkXs s n done rk left m = (fun y => if decide (y < m) && rdy s done y then newR s n rk y else rk y, orB (rdy s done) m, left - ((List.range m).countP (rdy s done) : Nat)) := by
  induction m with
  | zero => rw [rkXs_zero]; simp [orB]
  | succ m ih =>
    rw [rkXs_succ, ih (by omega), rkX, orB_succ, List.range_succ, List.countP_append]
    cases h : rdy s done m with
    | false =>
      simp only [h, Bool.false_eq_true, if_false]
      refine Prod.ext ?_ (Prod.ext rfl ?_)
      · funext y
        by_cases hy : y = m
        · subst hy; simp [h]
        · have h1 : decide (y < m + 1) = decide (y < m) := by rw [Bool.eq_iff_iff]; simp; omega
          simp only [h1]
      · simp [List.countP_cons, h]
    | true =>
      obtain ⟨h1, h2⟩ := rdy_iff.1 h
      simp only [h, if_true]
      refine Prod.ext ?_ (Prod.ext rfl ?_)
      · simp only
        rw [rkD_fold (rk := rk) (fun d hd => ⟨fun e => ?_, ?_⟩) (by simp)]
        · funext y
          simp only [upd]
          by_cases hy : y = m
          · subst hy; simp [h]; rfl
          · have h3 : decide (y < m + 1) = decide (y < m) := by rw [Bool.eq_iff_iff]; simp; omega
            rw [if_neg hy, h3]
        · have := h2 d hd; rw [e, h1] at this; cases this
        · have h3 : rdy s done d = false := by
            cases h4 : rdy s done d
            · rfl
            · have := (rdy_iff.1 h4).1; rw [h2 d hd] at this; cases this
          simp [h3]
      · simp [List.countP_cons, h]; omega
/-! ### all rounds -/
structure KI (s : Nat → W64) (n : Nat) (rk : Rk) (done : W64) (left : Int) (r : Int) : Prop where
  dn : ∀ x, done.getLsbD x = true → x < n ∧ 0 ≤ rk x ∧ rk x < r ∧ (∀ d, (s x).getLsbD d = true → done.getLsbD d = true ∧ rk d < rk x) ∧ (rk x = 0 ∨ ∃ d, (s x).getLsbD d = true ∧ rk x = rk d + 1)
  un : ∀ x, done.getLsbD x = false → rk x = 0
  lf : left = ((List.range n).countP fun x => !done.getLsbD x : Nat)
  r0 : 0 ≤ r
  rr : r + left ≤ n
theorem KI.start (s : Nat → W64) (n : Nat) : KI s n (fun _ => 0) 0 n 0 where
  dn := fun x h => by simp at h
  un := fun x _ => rfl
  lf := by simp
  r0 := by omega
  rr := by omega
theorem KI.round {s : Nat → W64} {n : Nat} {rk : Rk} {done : W64} {left r : Int} (hn : n ≤ 64) (hS : ∀ x d, (s x).getLsbD d = true → d < n) (k : KI s n rk done left r) (hl : (rkXs s n done rk left n).2.2 ≠ left) :
    KI s n (rkXs s n done rk left n).1 (done ||| (rkXs s n done rk left n).2.1) (rkXs s n done rk left n).2.2 (r + 1) := by
  rw [round_eq n hn] at hl ⊢
  simp only at hl ⊢
  have hor : ∀ x, (done ||| orB (rdy s done) n).getLsbD x = (done.getLsbD x || (decide (x < n) && rdy s done x)) := fun x => by rw [BitVec.getLsbD_or, orB_get _ n hn]
  have hnr : ∀ x, done.getLsbD x = true → rdy s done x = false := fun x h => by
    cases h4 : rdy s done x
    · rfl
    · have := (rdy_iff.1 h4).1; rw [h] at this; cases this
  have hcnt : (List.range n).countP (fun x => !done.getLsbD x) = (List.range n).countP (rdy s done) + (List.range n).countP (fun x => !(done ||| orB (rdy s done) n).getLsbD x) := by
    refine countP_split fun x hx => ?_
    have hx := List.mem_range.1 hx
    simp only [hor, hx, decide_true, Bool.true_and]
    cases h1 : done.getLsbD x
    · cases h2 : rdy s done x <;> simp
    · rw [hnr x h1]; simp
  have hlf := k.lf
  have hrr := k.rr
  have hr0 := k.r0
  refine ⟨fun x hx => ?_, fun x hx => ?_, by omega, by omega, by omega⟩
  · rw [hor] at hx
    cases hd : done.getLsbD x with
    | true =>
      obtain ⟨h1, h2, h3, h4, h5⟩ := k.dn x hd
      simp only [hnr x hd, Bool.and_false, Bool.false_eq_true, if_false]
      refine ⟨h1, h2, by omega, fun d hs => ?_, ?_⟩
      · obtain ⟨h6, h7⟩ := h4 d hs
        rw [hor, h6, hnr d h6]; simp; exact h7
      · rcases h5 with h5 | ⟨d, h6, h7⟩
        · exact .inl h5
        · refine .inr ⟨d, h6, ?_⟩
          rw [hnr d (h4 d h6).1]; simp; exact h7
    | false =>
      rw [hd] at hx
      simp only [Bool.false_or, Bool.and_eq_true, decide_eq_true_eq] at hx
      obtain ⟨h1, h2⟩ := hx
      obtain ⟨h3, h4⟩ := rdy_iff.1 h2
      simp only [h1, h2, decide_true, Bool.and_true, if_true]
      obtain ⟨m1, m2, m3⟩ := mxF_spec (fun d => (s x).getLsbD d) (fun d => w64 (rk d + 1)) (List.range n) (rk x)
      have h0 := k.un x h3
      have hw : ∀ d, done.getLsbD d = true → w64 (rk d + 1) = rk d + 1 := fun d hd => by
        obtain ⟨q1, q2, q3, _⟩ := k.dn d hd
        exact w64_id (by unfold i64; omega)
      have hro : ∀ d, (s x).getLsbD d = true → (if decide (d < n) && rdy s done d then newR s n rk d else rk d) = rk d := fun d hs => by rw [hnr d (h4 d hs)]; simp
      have he : newR s n rk x = mxF (fun d => (s x).getLsbD d) (fun d => w64 (rk d + 1)) (List.range n) (rk x) := rfl
      refine ⟨trivial, by omega, ?_, fun d hs => ⟨?_, ?_⟩, ?_⟩
      · rcases m3 with m3 | ⟨d, m4, m5, m6⟩
        · omega
        · obtain ⟨q1, q2, q3, _⟩ := k.dn d (h4 d m5)
          rw [hw d (h4 d m5)] at m6; omega
      · rw [hor, h4 d hs]; rfl
      · rw [hro d hs]
        have := m2 d (List.mem_range.2 (hS x d hs)) hs
        rw [hw d (h4 d hs)] at this; omega
      · rcases m3 with m3 | ⟨d, m4, m5, m6⟩
        · left; omega
        · right
          refine ⟨d, m5, ?_⟩
          rw [hro d m5]
          rw [hw d (h4 d m5)] at m6; omega
  · rw [hor] at hx
    simp only [Bool.or_eq_false_iff] at hx
    rw [hx.2]
    simp only [Bool.false_eq_true, if_false]
    exact k.un x hx.1
/-- numbers that rise along each cycle -/
def Rise (s : Nat → W64) (n : Nat) (g : Nat → Int) : Prop := ∀ d x, d < n → x < n → (s x).getLsbD d = true → g d < g x
structure IsRank (s : Nat → W64) (n : Nat) (rk : Rk) : Prop where
  lo : ∀ x, x < n → 0 ≤ rk x ∧ rk x < n
  up : Rise s n rk
  by1 : ∀ x, x < n → rk x = 0 ∨ ∃ d, d < n ∧ (s x).getLsbD d = true ∧ rk x = rk d + 1
theorem KI.fin {s : Nat → W64} {n : Nat} {rk : Rk} {done : W64} {left r : Int} (hS : ∀ x d, (s x).getLsbD d = true → d < n) (k : KI s n rk done left r) (h : left ≤ 0) : IsRank s n rk := by
  have hlf := k.lf
  have h0 : (List.range n).countP (fun x => !done.getLsbD x) = 0 := by omega
  have hd : ∀ x, x < n → done.getLsbD x = true := fun x hx => by
    have := List.countP_eq_zero.1 h0 x (List.mem_range.2 hx)
    simpa using this
  have hrr := k.rr
  refine ⟨fun x hx => ?_, fun d x hdn hx hs => ((k.dn x (hd x hx)).2.2.2.1 d hs).2, fun x hx => ?_⟩
  · obtain ⟨h1, h2, h3, _⟩ := k.dn x (hd x hx); omega
  · rcases (k.dn x (hd x hx)).2.2.2.2 with h | ⟨d, h1, h2⟩
    · exact .inl h
    · exact .inr ⟨d, hS x d h1, h1, h2⟩
theorem kahnR_spec {s : Nat → W64} {n : Nat} (hn : n ≤ 64) (hS : ∀ x d, (s x).getLsbD d = true → d < n) : ∀ (f : Nat) {rk : Rk} {done : W64} {left r : Int}, KI s n rk done left r → left ≤ f →
    match kahnR s n f rk done left with
    | some rk' => IsRank s n rk'
    | none => ¬ ∃ g, Rise s n g
  | 0, rk, done, left, r, k, h => by rw [kahnR]; exact k.fin hS (by omega)
  | f + 1, rk, done, left, r, k, h => by
    rw [kahnR]
    split
    · rename_i rk' he
      split at he
      · injection he with he; subst he
        exact k.fin hS (by assumption)
      · split at he
        · cases he
        · rename_i h1 h2
          have := kahnR_spec hn hS f (k.round hn hS h2) (by have := rkXs_left s n done rk left n; omega)
          rw [he] at this
          exact this
    · rename_i he
      split at he
      · cases he
      · split at he
        · rename_i h1 h2
          rintro ⟨g, hg⟩
          rw [round_eq n hn] at h2
          simp only at h2
          have h3 : (List.range n).countP (rdy s done) = 0 := by omega
          have h3 := List.countP_eq_zero.1 h3
          have hlf := k.lf
          have hne : (List.range n).filter (fun x => !done.getLsbD x) ≠ [] := by
            intro e
            rw [List.countP_eq_length_filter, e] at hlf
            simp at hlf; omega
          obtain ⟨x, hx, hm⟩ := exists_min g _ hne
          rw [List.mem_filter, List.mem_range] at hx
          obtain ⟨hx, hxd⟩ := hx
          simp only [Bool.not_eq_true'] at hxd
          have h4 := h3 x (List.mem_range.2 hx)
          rw [rdy_iff] at h4
          have : ∃ d, (s x).getLsbD d = true ∧ done.getLsbD d = false := by
            apply Classical.byContradiction
            intro hno
            apply h4
            refine ⟨hxd, fun d hd => ?_⟩
            cases hdd : done.getLsbD d
            · exact (hno ⟨d, hd, hdd⟩).elim
            · rfl
          obtain ⟨d, hd, hdd⟩ := this
          have h5 := hm d (List.mem_filter.2 ⟨List.mem_range.2 (hS x d hd), by simp [hdd]⟩)
          have h6 := hg d x (hS x d hd) hx hd
          omega
        · rename_i h1 h2
          have := kahnR_spec hn hS f (k.round hn hS h2) (by have := rkXs_left s n done rk left n; omega)
          rw [he] at this
          exact this
theorem kahn_some {s : Nat → W64} {n : Nat} (hn : n ≤ 64) (hS : ∀ x d, (s x).getLsbD d = true → d < n) {rk : Rk} (h : kahn s n = some rk) : IsRank s n rk := by
  have := kahnR_spec hn hS n (KI.start s n) (Int.le_refl _)
  rw [show kahnR s n n (fun _ => 0) 0 n = some rk from h] at this
  exact this
theorem kahn_none {s : Nat → W64} {n : Nat} (hn : n ≤ 64) (hS : ∀ x d, (s x).getLsbD d = true → d < n) (h : kahn s n = none) : ¬ ∃ g, Rise s n g := by
  have := kahnR_spec hn hS n (KI.start s n) (Int.le_refl _)
  rw [show kahnR s n n (fun _ => 0) 0 n = none from h] at this
  exact this
/-- least of all that rise -/
theorem IsRank.least {s : Nat → W64} {n : Nat} {rk g : Rk} (h : IsRank s n rk) (h0 : ∀ x, x < n → 0 ≤ g x) (hg : Rise s n g) : ∀ x, x < n → rk x ≤ g x := by
  have : ∀ (m : Nat) x, x < n → (rk x).toNat = m → rk x ≤ g x := by
    intro m
    induction m with
    | zero => intro x hx he; have := h0 x hx; have := h.lo x hx; omega
    | succ m ih =>
      intro x hx he
      rcases h.by1 x hx with h1 | ⟨d, hd, h1, h2⟩
      · have := h0 x hx; omega
      · have h3 := (h.lo d hd).1
        have := ih d hd (by omega)
        have := hg d x hd hx h1
        omega
  exact fun x hx => this _ x hx rfl
theorem IsRank.eq {s : Nat → W64} {n : Nat} {rk g : Rk} (h : IsRank s n rk) (h0 : ∀ x, x < n → 0 ≤ g x) (hg : Rise s n g) (hle : ∀ x, x < n → g x ≤ rk x) : ∀ x, x < n → g x = rk x := fun x hx => by
  have := h.least h0 hg x hx
  have := hle x hx
  omega
end Go.Proofs.Ytpilobbmijpnoaa
