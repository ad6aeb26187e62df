/-
  Chapter 23: ways of the reference: lengths shrink until nothing changes.
-/
import Derived.Test.YtpilobbmijpnoaaQ23r

namespace Go.Proofs.Ytpilobbmijpnoaa
open Go Go.Tp
set_option linter.unusedVariables false
set_option linter.unusedSimpArgs false
set_option maxRecDepth 100000
set_option maxHeartbeats 4000000

def wayL (s : Nat → W64) (to x : Nat) : Int := if farF s to x = 0 then 1000 else farF s to x
def stepV (to : Nat) (l : Rk) (j : Nat) : Int := if j = to then 1 else l j + 1
structure WI (s : Nat → W64) (n to : Nat) (l : Rk) : Prop where
  lo : ∀ x, x < n → 1 ≤ l x ∧ l x ≤ 1000
  way : ∀ x, x < n → l x = 1000 ∨ ∃ k : Nat, l x = k ∧ Way s to x k
theorem WI.start (s : Nat → W64) (n to : Nat) : WI s n to fun _ => 1000 := ⟨fun x _ => by simp, fun x _ => .inl rfl⟩
section
variable {s : Nat → W64} {n to : Nat} {l l0 : Rk} {i j : Nat} {ag : Bool}
theorem stepV_lo (h : WI s n to l) (hj : j < n) : 1 ≤ stepV to l j ∧ stepV to l j ≤ 1001 := by
  have := h.lo j hj
  unfold stepV; split <;> omega
theorem WI.step (h : WI s n to l) (hi : i < n) (hj : j < n) (he : (s i).getLsbD j = true) (hv : stepV to l j < l i) : WI s n to (upd l i (stepV to l j)) where
  lo := fun x hx => by
    have h1 := h.lo i hi
    have h2 := stepV_lo h hj
    unfold upd
    split
    · omega
    · exact h.lo x hx
  way := fun x hx => by
    unfold upd
    split
    · rename_i e; subst e
      right
      unfold stepV at hv ⊢
      split
      · rename_i e; subst e
        exact ⟨1, rfl, .one he⟩
      · rename_i e
        rw [if_neg e] at hv
        have h1 := h.lo x hx
        rcases h.way j hj with h2 | ⟨k, h2, h3⟩
        · omega
        · exact ⟨k + 1, by rw [h2]; push_cast; rfl, .more he h3⟩
    · exact h.way x hx
def sumL (n : Nat) (l : Rk) : Nat := sumF (fun x => (l x).toNat) n
theorem sum_lt (h : WI s n to l) (hi : i < n) (hj : j < n) (hv : stepV to l j < l i) : sumL n (upd l i (stepV to l j)) < sumL n l := by
  have h1 := stepV_lo h hj
  refine sumF_lt (fun x hx => ?_) hi ?_
  · simp only [upd]
    split
    · rename_i e; subst e; omega
    · exact Nat.le_refl _
  · simp only [upd, if_pos]; omega
def Fixed (s : Nat → W64) (n to : Nat) (l : Rk) : Prop := ∀ i j, i < n → j < n → (s i).getLsbD j = true → l i ≤ stepV to l j
theorem Fixed.le (hS : ∀ x d, (s x).getLsbD d = true → d < n) (h : Fixed s n to l) (ht : to < n) : ∀ (k x : Nat), x < n → Way s to x k → l x ≤ k := by
  intro k
  induction k with
  | zero => intro x hx hw; have := hw.pos; omega
  | succ k ih =>
    intro x hx hw
    cases hw with
    | one h1 => have := h x to hx ht h1; simp only [stepV, if_pos] at this; omega
    | @more _ y k h1 h2 =>
      have hy := hS x y h1
      have h3 := h x y hx hy h1
      have h4 := ih y hy h2
      unfold stepV at h3
      split at h3 <;> omega
theorem WI.done (hn : n ≤ 64) (hS : ∀ x d, (s x).getLsbD d = true → d < n) (h : WI s n to l) (hf : Fixed s n to l) (ht : to < n) {x : Nat} (hx : x < n) : l x = wayL s to x := by
  unfold wayL
  rcases far_spec (s := s) (to := to) (by omega) (x := x) (by omega) with ⟨h1, h2⟩ | ⟨m, h1, h2, h3⟩
  · rw [if_pos h1]
    rcases h.way x hx with h3 | ⟨k, _, h3⟩
    · exact h3
    · exact (h2 k h3).elim
  · have h4 := h2.pos
    rw [if_neg (by omega), h1]
    have h5 := hf.le hS ht m x hx h2.way
    rcases h.way x hx with h6 | ⟨k, h6, h7⟩
    · omega
    · have := h2.le k h7; omega
structure PW (s : Nat → W64) (n to : Nat) (l0 l : Rk) (ag : Bool) (i j : Nat) : Prop where
  same : ag = false → l = l0 ∧ ∀ i' j', (i' < i ∨ i' = i ∧ j' < j) → i' < n → j' < n → (s i').getLsbD j' = true → l i' ≤ stepV to l j'
  less : ag = true → sumL n l < sumL n l0
theorem PW.start : PW s n to l l false 0 0 := ⟨fun _ => ⟨rfl, fun i' j' h => by omega⟩, fun h => by cases h⟩
theorem PW.skip (h : PW s n to l0 l ag i j) (hv : (s i).getLsbD j = true → l i ≤ stepV to l j) : PW s n to l0 l ag i (j + 1) where
  same := fun e => ⟨(h.same e).1, fun i' j' hlt hi hj he => by
    by_cases h1 : i' = i ∧ j' = j
    · obtain ⟨rfl, rfl⟩ := h1; exact hv he
    · exact (h.same e).2 i' j' (by omega) hi hj he⟩
  less := h.less
theorem PW.row (h : PW s n to l0 l ag i n) : PW s n to l0 l ag (i + 1) 0 where
  same := fun e => ⟨(h.same e).1, fun i' j' hlt hi hj he => (h.same e).2 i' j' (by omega) hi hj he⟩
  less := h.less
theorem PW.cut (h : PW s n to l0 l ag i j) (hr : WI s n to l) (hi : i < n) (hj : j < n) (hv : stepV to l j < l i) : PW s n to l0 (upd l i (stepV to l j)) true i (j + 1) where
  same := fun e => by cases e
  less := fun _ => by
    have h1 := sum_lt hr hi hj hv
    cases ag with
    | false => rw [← (h.same rfl).1]; exact h1
    | true => have := h.less rfl; omega
theorem PW.fin (h : PW s n to l0 l false n 0) : Fixed s n to l := fun i j hi hj he => (h.same rfl).2 i j (.inl hi) hi hj he
theorem flagW_lt (h : PW s n to l0 l ag i j) : 2 * sumL n l + flagN ag < 2 * sumL n l0 + flagN true := by
  cases ag with
  | false => rw [(h.same rfl).1]; show 2 * sumL n l0 + 0 < 2 * sumL n l0 + 1; omega
  | true => have := h.less rfl; simp; omega
end
theorem ways_p (m : Nat) (c : Procs) (to : Nat) (hs : ShortN c) (hv : Valid m c) (ht : to < m) : Pure Try.prog gs0 19 [netA m c, AI (to : Nat)] (rowA ((List.range m).map (wayL (beforeF c) to))) := by
  have hin := hv.inB
  have hn := mayG_n hv.g
  have hm64 : m ≤ 64 := by omega
  have hS := fun x d => before_lt hv x d
  have hprec := fun d x => prec_p m c d x hs
  have hbit := fun d x => before_bits hin d x
  generalize hsd : beforeF c = s at hS hbit
  refine Pure.of (S := tt) (fn := Try.f19) (n := 58) tt_ok Try.func19 rfl rfl rfl rfl fun w0 h0 F hgs => ?_
  (repeat first|refine A.s rfl ?_|refine A.r rfl rfl ?_|refine A.w rfl rfl ?_|refine A.p rfl ?_|refine A.b rfl fun bx=>?_|refine A.t rfl fun bl=>?_|refine A.step rfl ?_|refine A.v rfl rfl ?_)
  refine A.emptyRow 5 1 rfl fun z0 => ?_
  refine A.keep [1, 2, 5, 6] rfl ?_
  refine A.loopP (ι := Nat × Value) (fun q => (⟨[(1, AI (to : Nat)), (2, .v (.pointer (some ⟨_, 0, none⟩))), (5, .ms q.2 1 q.1), (6, AI (q.1 : Nat))], []⟩, [.row 1 q.2 (List.replicate q.1 (AI 1000)), .box _ (.ag [AI m, procsA c])]))
    (fun q => q.1 ≤ m) (fun q => m - q.1) (0, z0) (by simp) rfl fun q hq qh => ?_
  obtain ⟨k0, z⟩ := q
  simp only at hq qh ⊢
  (repeat first|refine A.s rfl ?_|refine A.r rfl rfl ?_|refine A.w rfl rfl ?_|refine A.p rfl ?_|refine A.b rfl fun bx=>?_|refine A.t rfl fun bl=>?_|refine A.step rfl ?_|refine A.v rfl rfl ?_)
  refine A.cond rfl (fun hc => ?_) (fun hc => ?_)
  · simp at hc
    (repeat first|refine A.s rfl ?_|refine A.r rfl rfl ?_|refine A.w rfl rfl ?_|refine A.p rfl ?_|refine A.b rfl fun bx=>?_|refine A.t rfl fun bl=>?_)
    refine A.appendRowE rfl rfl rfl rfl rfl rfl rfl rfl rfl rfl rfl rfl rfl rfl (by show ((List.replicate k0 (AI 1000)).length + 1) * 1 ≤ _; rw [List.length_replicate]; omega) (by show ((List.replicate k0 (AI 1000)).length + 1) * 1 * 8 ≤ _; rw [List.length_replicate]; omega) fun z' => ?_
    refine A.valE 19 rfl (x' := .ms z' 1 (k0 + 1)) (by rw [List.length_replicate]; rfl) ?_
    refine A.entsEq (Λ' := [.row 1 z' (List.replicate (k0 + 1) (AI 1000)), .box _ (.ag [AI m, procsA c])]) (by rw [List.replicate_succ']; rfl) ?_
    (repeat first|refine A.s rfl ?_|refine A.r rfl rfl ?_|refine A.w rfl rfl ?_|refine A.p rfl ?_|refine A.b rfl fun bx=>?_|refine A.t rfl fun bl=>?_|refine A.step rfl ?_|refine A.v rfl rfl ?_)
    refine A.valE 6 rfl (x' := AI ((k0 + 1 : Nat) : Int)) (inc_eq k0 (by omega)) ?_
    refine A.sub (by repeat (first | exact trivial | refine ⟨⟨_, rfl, .refl⟩, ?_⟩)) (qh (k0 + 1, z') (by simp only; omega) (by simp only; omega))
  simp at hc
  have hk0 : k0 = m := by omega
  subst hk0
  refine A.entsEq (Λ' := [.row 1 z (rkA k0 fun _ => 1000), .box _ (.ag [AI k0, procsA c])]) (by rw [rkA, List.map_const', List.length_range]) ?_
  (repeat first|refine A.s rfl ?_|refine A.r rfl rfl ?_|refine A.w rfl rfl ?_|refine A.p rfl ?_|refine A.b rfl fun bx=>?_|refine A.t rfl fun bl=>?_|refine A.step rfl ?_|refine A.v rfl rfl ?_)
  refine A.keep [1, 2, 5, 7] rfl ?_
  refine A.loopP (ι := Rk × Bool) (fun q => (⟨[(1, AI (to : Nat)), (2, .v (.pointer (some ⟨_, 0, none⟩))), (5, .ms z 1 k0), (7, AB q.2)], []⟩, [.row 1 z (rkA k0 q.1), .box _ (.ag [AI k0, procsA c])]))
    (fun q => WI s k0 to q.1 ∧ (q.2 = false → Fixed s k0 to q.1)) (fun q => 2 * sumL k0 q.1 + flagN q.2) (fun _ => 1000, true) ⟨WI.start s k0 to, fun h => by cases h⟩ rfl fun q hi ih => ?_
  obtain ⟨l0, fl⟩ := q
  generalize k0 = m at *
  simp only at hi ih ⊢
  (repeat first|refine A.s rfl ?_|refine A.r rfl rfl ?_|refine A.w rfl rfl ?_|refine A.p rfl ?_|refine A.b rfl fun bx=>?_|refine A.t rfl fun bl=>?_|refine A.step rfl ?_|refine A.v rfl rfl ?_)
  refine A.cond rfl (fun hc => ?_) (fun hc => ?_)
  · subst hc
    (repeat first|refine A.s rfl ?_|refine A.r rfl rfl ?_|refine A.w rfl rfl ?_|refine A.p rfl ?_|refine A.b rfl fun bx=>?_|refine A.t rfl fun bl=>?_|refine A.step rfl ?_|refine A.v rfl rfl ?_)
    refine A.keep [1, 2, 5, 7, 8] rfl ?_
    refine A.loopP (ι := Nat × Rk × Bool) (fun q => (⟨[(1, AI (to : Nat)), (2, .v (.pointer (some ⟨_, 0, none⟩))), (5, .ms z 1 m), (7, AB q.2.2), (8, AI (q.1 : Nat))], []⟩, [.row 1 z (rkA m q.2.1), .box _ (.ag [AI m, procsA c])]))
      (fun q => q.1 ≤ m ∧ WI s m to q.2.1 ∧ PW s m to l0 q.2.1 q.2.2 q.1 0) (fun q => m - q.1) (0, l0, false) ⟨by simp, hi.1, PW.start⟩ rfl fun q hj jh => ?_
    obtain ⟨i, l1, f1⟩ := q
    simp only at hj jh ⊢
    (repeat first|refine A.s rfl ?_|refine A.r rfl rfl ?_|refine A.w rfl rfl ?_|refine A.p rfl ?_|refine A.b rfl fun bx=>?_|refine A.t rfl fun bl=>?_|refine A.step rfl ?_|refine A.v rfl rfl ?_)
    refine A.cond rfl (fun hc => ?_) (fun hc => ?_)
    · simp at hc
      have him : i < m := by omega
      (repeat first|refine A.s rfl ?_|refine A.r rfl rfl ?_|refine A.w rfl rfl ?_|refine A.p rfl ?_|refine A.b rfl fun bx=>?_|refine A.t rfl fun bl=>?_|refine A.step rfl ?_|refine A.v rfl rfl ?_)
      refine A.keep [1, 2, 5, 7, 8, 9] rfl ?_
      refine A.loopP (ι := Nat × Rk × Bool) (fun q => (⟨[(1, AI (to : Nat)), (2, .v (.pointer (some ⟨_, 0, none⟩))), (5, .ms z 1 m), (7, AB q.2.2), (8, AI (i : Nat)), (9, AI (q.1 : Nat))], []⟩, [.row 1 z (rkA m q.2.1), .box _ (.ag [AI m, procsA c])]))
        (fun q => q.1 ≤ m ∧ WI s m to q.2.1 ∧ PW s m to l0 q.2.1 q.2.2 i q.1) (fun q => m - q.1) (0, l1, f1) ⟨by simp, hj.2⟩ rfl fun q hk kh => ?_
      obtain ⟨j, l, ag⟩ := q
      simp only at hk kh ⊢
      obtain ⟨hjm0, hR, hP⟩ := hk
      (repeat first|refine A.s rfl ?_|refine A.r rfl rfl ?_|refine A.w rfl rfl ?_|refine A.p rfl ?_|refine A.b rfl fun bx=>?_|refine A.t rfl fun bl=>?_|refine A.step rfl ?_|refine A.v rfl rfl ?_)
      refine A.cond rfl (fun hc => ?_) (fun hc => ?_)
      · simp at hc
        have hjm : j < m := by omega
        have hb := hbit j i (by omega)
        have hli := hR.lo i him
        have hlj := hR.lo j hjm
        (repeat first|refine A.s rfl ?_|refine A.r rfl rfl ?_|refine A.w rfl rfl ?_|refine A.p rfl ?_|refine A.b rfl fun bx=>?_|refine A.t rfl fun bl=>?_)
        refine A.indexRow rfl rfl rfl rfl rfl rfl rfl rfl (by omega) (by rw [rkA_len]; omega) rfl ?_
        refine A.loadRow rfl rfl rfl rfl rfl rfl (y' := AI (l j)) rfl (range_at _ hjm) rfl rfl ?_
        (repeat first|refine A.s rfl ?_|refine A.r rfl rfl ?_|refine A.w rfl rfl ?_|refine A.p rfl ?_|refine A.b rfl fun bx=>?_|refine A.t rfl fun bl=>?_|refine A.step rfl ?_|refine A.v rfl rfl ?_)
        refine A.cond rfl (fun hc => ?_) (fun hc => ?_)
        · have hjt : j = to := by simp at hc; omega
          (repeat first|refine A.s rfl ?_|refine A.r rfl rfl ?_|refine A.w rfl rfl ?_|refine A.p rfl ?_|refine A.b rfl fun bx=>?_|refine A.t rfl fun bl=>?_|refine A.step rfl ?_|refine A.v rfl rfl ?_)
          refine A.valE 10 rfl (x' := AI (stepV to l j)) (ai_eq (by rw [stepV, if_pos hjt])) ?_
          (repeat first|refine A.s rfl ?_|refine A.r rfl rfl ?_|refine A.w rfl rfl ?_|refine A.p rfl ?_|refine A.b rfl fun bx=>?_|refine A.t rfl fun bl=>?_)
          refine A.c rfl (hprec (j : Nat) (i : Nat)) .refl ?_
          (repeat first|refine A.s rfl ?_|refine A.r rfl rfl ?_|refine A.w rfl rfl ?_|refine A.p rfl ?_|refine A.b rfl fun bx=>?_|refine A.t rfl fun bl=>?_)
          ((fail_if_success (refine A.lit? rfl ?_)); refine A.gS rfl (fun hc => ?_) (fun hc => ?_))
          · have he : (s i).getLsbD j = true := by rw [hb]; exact hc
            (repeat first|refine A.s rfl ?_|refine A.r rfl rfl ?_|refine A.w rfl rfl ?_|refine A.p rfl ?_|refine A.b rfl fun bx=>?_|refine A.t rfl fun bl=>?_)
            refine A.indexRow rfl rfl rfl rfl rfl rfl rfl rfl (by omega) (by rw [rkA_len]; omega) rfl ?_
            refine A.loadRow rfl rfl rfl rfl rfl rfl (y' := AI (l i)) rfl (range_at _ him) rfl rfl ?_
            (repeat first|refine A.s rfl ?_|refine A.r rfl rfl ?_|refine A.w rfl rfl ?_|refine A.p rfl ?_|refine A.b rfl fun bx=>?_|refine A.t rfl fun bl=>?_|refine A.step rfl ?_|refine A.v rfl rfl ?_)
            refine A.cond rfl (fun hc => ?_) (fun hc => ?_)
            · have hlt : stepV to l j < l i := by simpa using hc
              (repeat first|refine A.s rfl ?_|refine A.r rfl rfl ?_|refine A.w rfl rfl ?_|refine A.p rfl ?_|refine A.b rfl fun bx=>?_|refine A.t rfl fun bl=>?_)
              refine A.indexRow rfl rfl rfl rfl rfl rfl rfl rfl (by omega) (by rw [rkA_len]; omega) rfl ?_
              refine A.storeRow rfl rfl rfl rfl rfl rfl rfl rfl rfl (by rw [rkA_len]; exact him) (xs' := rkA m (upd l i (stepV to l j))) (range_set AI _ i _) ?_
              (repeat first|refine A.s rfl ?_|refine A.r rfl rfl ?_|refine A.w rfl rfl ?_|refine A.p rfl ?_|refine A.b rfl fun bx=>?_|refine A.t rfl fun bl=>?_|refine A.step rfl ?_|refine A.v rfl rfl ?_)
              refine A.valE 9 rfl (x' := AI ((j + 1 : Nat) : Int)) (inc_eq j (by omega)) ?_
              refine A.sub (by repeat (first | exact trivial | refine ⟨⟨_, rfl, .refl⟩, ?_⟩)) (kh (j + 1, upd l i (stepV to l j), true) ⟨by simp only; omega, hR.step him hjm he hlt, hP.cut hR him hjm hlt⟩ (by simp only; omega))
            · have hle : l i ≤ stepV to l j := by simpa using hc
              (repeat first|refine A.s rfl ?_|refine A.r rfl rfl ?_|refine A.w rfl rfl ?_|refine A.p rfl ?_|refine A.b rfl fun bx=>?_|refine A.t rfl fun bl=>?_|refine A.step rfl ?_|refine A.v rfl rfl ?_)
              refine A.valE 9 rfl (x' := AI ((j + 1 : Nat) : Int)) (inc_eq j (by omega)) ?_
              refine A.sub (by repeat (first | exact trivial | refine ⟨⟨_, rfl, .refl⟩, ?_⟩)) (kh (j + 1, l, ag) ⟨by simp only; omega, hR, hP.skip fun _ => hle⟩ (by simp only; omega))
          · have he : (s i).getLsbD j = false := by rw [hb]; exact hc
            (repeat first|refine A.s rfl ?_|refine A.r rfl rfl ?_|refine A.w rfl rfl ?_|refine A.p rfl ?_|refine A.b rfl fun bx=>?_|refine A.t rfl fun bl=>?_|refine A.step rfl ?_|refine A.v rfl rfl ?_)
            refine A.valE 9 rfl (x' := AI ((j + 1 : Nat) : Int)) (inc_eq j (by omega)) ?_
            refine A.sub (by repeat (first | exact trivial | refine ⟨⟨_, rfl, .refl⟩, ?_⟩)) (kh (j + 1, l, ag) ⟨by simp only; omega, hR, hP.skip fun e => by rw [he] at e; cases e⟩ (by simp only; omega))
        · have hjt : j ≠ to := by simp at hc; omega
          refine A.valE 10 rfl (x' := AI (stepV to l j)) (ai_eq (by rw [stepV, if_neg hjt]; exact w64_id (by unfold i64; omega))) ?_
          (repeat first|refine A.s rfl ?_|refine A.r rfl rfl ?_|refine A.w rfl rfl ?_|refine A.p rfl ?_|refine A.b rfl fun bx=>?_|refine A.t rfl fun bl=>?_)
          refine A.c rfl (hprec (j : Nat) (i : Nat)) .refl ?_
          (repeat first|refine A.s rfl ?_|refine A.r rfl rfl ?_|refine A.w rfl rfl ?_|refine A.p rfl ?_|refine A.b rfl fun bx=>?_|refine A.t rfl fun bl=>?_)
          ((fail_if_success (refine A.lit? rfl ?_)); refine A.gS rfl (fun hc => ?_) (fun hc => ?_))
          · have he : (s i).getLsbD j = true := by rw [hb]; exact hc
            (repeat first|refine A.s rfl ?_|refine A.r rfl rfl ?_|refine A.w rfl rfl ?_|refine A.p rfl ?_|refine A.b rfl fun bx=>?_|refine A.t rfl fun bl=>?_)
            refine A.indexRow rfl rfl rfl rfl rfl rfl rfl rfl (by omega) (by rw [rkA_len]; omega) rfl ?_
            refine A.loadRow rfl rfl rfl rfl rfl rfl (y' := AI (l i)) rfl (range_at _ him) rfl rfl ?_
            (repeat first|refine A.s rfl ?_|refine A.r rfl rfl ?_|refine A.w rfl rfl ?_|refine A.p rfl ?_|refine A.b rfl fun bx=>?_|refine A.t rfl fun bl=>?_|refine A.step rfl ?_|refine A.v rfl rfl ?_)
            refine A.cond rfl (fun hc => ?_) (fun hc => ?_)
            · have hlt : stepV to l j < l i := by simpa using hc
              (repeat first|refine A.s rfl ?_|refine A.r rfl rfl ?_|refine A.w rfl rfl ?_|refine A.p rfl ?_|refine A.b rfl fun bx=>?_|refine A.t rfl fun bl=>?_)
              refine A.indexRow rfl rfl rfl rfl rfl rfl rfl rfl (by omega) (by rw [rkA_len]; omega) rfl ?_
              refine A.storeRow rfl rfl rfl rfl rfl rfl rfl rfl rfl (by rw [rkA_len]; exact him) (xs' := rkA m (upd l i (stepV to l j))) (range_set AI _ i _) ?_
              (repeat first|refine A.s rfl ?_|refine A.r rfl rfl ?_|refine A.w rfl rfl ?_|refine A.p rfl ?_|refine A.b rfl fun bx=>?_|refine A.t rfl fun bl=>?_|refine A.step rfl ?_|refine A.v rfl rfl ?_)
              refine A.valE 9 rfl (x' := AI ((j + 1 : Nat) : Int)) (inc_eq j (by omega)) ?_
              refine A.sub (by repeat (first | exact trivial | refine ⟨⟨_, rfl, .refl⟩, ?_⟩)) (kh (j + 1, upd l i (stepV to l j), true) ⟨by simp only; omega, hR.step him hjm he hlt, hP.cut hR him hjm hlt⟩ (by simp only; omega))
            · have hle : l i ≤ stepV to l j := by simpa using hc
              (repeat first|refine A.s rfl ?_|refine A.r rfl rfl ?_|refine A.w rfl rfl ?_|refine A.p rfl ?_|refine A.b rfl fun bx=>?_|refine A.t rfl fun bl=>?_|refine A.step rfl ?_|refine A.v rfl rfl ?_)
              refine A.valE 9 rfl (x' := AI ((j + 1 : Nat) : Int)) (inc_eq j (by omega)) ?_
              refine A.sub (by repeat (first | exact trivial | refine ⟨⟨_, rfl, .refl⟩, ?_⟩)) (kh (j + 1, l, ag) ⟨by simp only; omega, hR, hP.skip fun _ => hle⟩ (by simp only; omega))
          · have he : (s i).getLsbD j = false := by rw [hb]; exact hc
            (repeat first|refine A.s rfl ?_|refine A.r rfl rfl ?_|refine A.w rfl rfl ?_|refine A.p rfl ?_|refine A.b rfl fun bx=>?_|refine A.t rfl fun bl=>?_|refine A.step rfl ?_|refine A.v rfl rfl ?_)
            refine A.valE 9 rfl (x' := AI ((j + 1 : Nat) : Int)) (inc_eq j (by omega)) ?_
            refine A.sub (by repeat (first | exact trivial | refine ⟨⟨_, rfl, .refl⟩, ?_⟩)) (kh (j + 1, l, ag) ⟨by simp only; omega, hR, hP.skip fun e => by rw [he] at e; cases e⟩ (by simp only; omega))
      · simp at hc
        have hjm : j = m := by omega
        rw [hjm] at hP
        (repeat first|refine A.s rfl ?_|refine A.r rfl rfl ?_|refine A.w rfl rfl ?_|refine A.p rfl ?_|refine A.b rfl fun bx=>?_|refine A.t rfl fun bl=>?_|refine A.step rfl ?_|refine A.v rfl rfl ?_)
        refine A.valE 8 rfl (x' := AI ((i + 1 : Nat) : Int)) (inc_eq i (by omega)) ?_
        refine A.sub (by repeat (first | exact trivial | refine ⟨⟨_, rfl, .refl⟩, ?_⟩)) (jh (i + 1, l, ag) ⟨by simp only; omega, hR, hP.row⟩ (by simp only; omega))
    · simp at hc
      have him : i = m := by omega
      have hP := hj.2.2
      rw [him] at hP
      (repeat first|refine A.s rfl ?_|refine A.r rfl rfl ?_|refine A.w rfl rfl ?_|refine A.p rfl ?_|refine A.b rfl fun bx=>?_|refine A.t rfl fun bl=>?_|refine A.step rfl ?_|refine A.v rfl rfl ?_)
      refine A.sub (by repeat (first | exact trivial | refine ⟨⟨_, rfl, .refl⟩, ?_⟩)) (ih (l1, f1) ⟨hj.2.1, fun e => by simp only at e; subst e; exact hP.fin⟩ (flagW_lt hP))
  · subst hc
    have hdn := fun x hx => hi.1.done hm64 hS (hi.2 rfl) ht (x := x) hx
    refine A.freezeRow 5 rfl ?_
    (repeat first|refine A.s rfl ?_|refine A.r rfl rfl ?_|refine A.w rfl rfl ?_|refine A.p rfl ?_|refine A.b rfl fun bx=>?_|refine A.t rfl fun bl=>?_|refine A.step rfl ?_|refine A.v rfl rfl ?_); refine A.ret1 (Λ' := []) rfl rfl rfl (List.nil_sublist _) ⟨?_, rfl⟩
    rw [row_rkA]
    have : rkA m l0 = rkA m (wayL s to) := List.map_congr_left fun x hx => by rw [hdn x (List.mem_range.1 hx)]
    rw [this]; exact .refl
end Go.Proofs.Ytpilobbmijpnoaa
