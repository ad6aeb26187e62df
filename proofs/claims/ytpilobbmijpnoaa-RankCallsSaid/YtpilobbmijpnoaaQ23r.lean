/-
  Chapter 23: Rank of the reference: ranks grow until nothing changes.
-/
import Derived.Test.YtpilobbmijpnoaaQ23l
import Derived.Test.YtpilobbmijpnoaaQ23g

namespace Go.Proofs.Ytpilobbmijpnoaa
open Go Go.Tp
set_option linter.unusedVariables false
set_option linter.unusedSimpArgs false
set_option maxRecDepth 100000
set_option maxHeartbeats 4000000

def sumF (f : Nat → Nat) : Nat → Nat
  | 0 => 0
  | n + 1 => sumF f n + f n
theorem sumF_le {f f' : Nat → Nat} : ∀ {n : Nat}, (∀ x, x < n → f' x ≤ f x) → sumF f' n ≤ sumF f n
  | 0, _ => Nat.le_refl _
  | n + 1, h => by
    have h1 := sumF_le (n := n) fun x hx => h x (by omega)
    have h2 := h n (by omega)
    rw [sumF, sumF]; omega
theorem sumF_lt {f f' : Nat → Nat} : ∀ {n : Nat}, (∀ x, x < n → f' x ≤ f x) → ∀ {j : Nat}, j < n → f' j < f j → sumF f' n < sumF f n
  | 0, _, j, hj, _ => by omega
  | n + 1, h, j, hj, hl => by
    rw [sumF, sumF]
    have h2 := h n (by omega)
    by_cases hjn : j = n
    · subst hjn
      have h1 := sumF_le (f := f) (f' := f') (n := j) fun x hx => h x (by omega)
      omega
    · have h1 := sumF_lt (n := n) (fun x hx => h x (by omega)) (j := j) (by omega) hl
      omega
def gapM (n : Nat) (g : Rk) : Nat := sumF (fun x => ((n : Int) + 1 - g x).toNat) n
structure RI (s : Nat → W64) (n : Nat) (g : Rk) : Prop where
  lo : ∀ x, x < n → 0 ≤ g x ∧ g x ≤ n
  bel : ∀ rk, kahn s n = some rk → ∀ x, x < n → g x ≤ rk x
theorem RI.start (s : Nat → W64) {n : Nat} (hn : n ≤ 64) (hS : ∀ x d, (s x).getLsbD d = true → d < n) : RI s n fun _ => 0 where
  lo := fun x _ => by simp
  bel := fun rk h x hx => ((kahn_some hn hS h).lo x hx).1
section
variable {s : Nat → W64} {n : Nat} {g : Rk} {i j : Nat}
theorem RI.bel' (hn : n ≤ 64) (hS : ∀ x d, (s x).getLsbD d = true → d < n) (h : RI s n g) (hi : i < n) (hj : j < n) (he : (s j).getLsbD i = true) : ∀ rk, kahn s n = some rk → ∀ x, x < n → upd g j (g i + 1) x ≤ rk x := fun rk hk x hx => by
  unfold upd
  split
  · rename_i e; subst e
    have h1 := (kahn_some hn hS hk).up i x hi hx he
    have h2 := h.bel rk hk i hi
    omega
  · exact h.bel rk hk x hx
theorem RI.over (hn : n ≤ 64) (hS : ∀ x d, (s x).getLsbD d = true → d < n) (h : RI s n g) (hi : i < n) (hj : j < n) (he : (s j).getLsbD i = true) (ho : (n : Int) < g i + 1) : kahn s n = none := by
  cases hk : kahn s n with
  | none => rfl
  | some rk =>
    have h1 := h.bel' hn hS hi hj he rk hk j hj
    have h2 := ((kahn_some hn hS hk).lo j hj).2
    simp only [upd, if_pos] at h1
    omega
theorem RI.step (hn : n ≤ 64) (hS : ∀ x d, (s x).getLsbD d = true → d < n) (h : RI s n g) (hi : i < n) (hj : j < n) (he : (s j).getLsbD i = true) (ho : g i + 1 ≤ n) : RI s n (upd g j (g i + 1)) where
  lo := fun x hx => by
    have := h.lo i hi
    unfold upd
    split
    · omega
    · exact h.lo x hx
  bel := h.bel' hn hS hi hj he
theorem gap_lt (h : RI s n g) (hi : i < n) (hj : j < n) (hv : g j ≤ g i) : gapM n (upd g j (g i + 1)) < gapM n g := by
  refine sumF_lt (fun x hx => ?_) hj ?_
  · simp only [upd]
    split
    · rename_i e; subst e; omega
    · exact Nat.le_refl _
  · simp only [upd, if_pos]
    have := h.lo j hj
    omega
theorem RI.done (hn : n ≤ 64) (hS : ∀ x d, (s x).getLsbD d = true → d < n) (h : RI s n g) (hr : Rise s n g) : ∃ rk, kahn s n = some rk ∧ ∀ x, x < n → g x = rk x := by
  cases hk : kahn s n with
  | none => exact (kahn_none hn hS hk ⟨g, hr⟩).elim
  | some rk => exact ⟨rk, rfl, (kahn_some hn hS hk).eq (fun x hx => (h.lo x hx).1) hr (h.bel rk hk)⟩
/-- one pass: nothing has changed and nothing is amiss so far, or something has grown -/
structure PI (s : Nat → W64) (n : Nat) (g0 g : Rk) (ag : Bool) (i j : Nat) : Prop where
  same : ag = false → g = g0 ∧ ∀ i' j', (i' < i ∨ i' = i ∧ j' < j) → i' < n → j' < n → (s j').getLsbD i' = true → g i' < g j'
  less : ag = true → gapM n g < gapM n g0
variable {g0 : Rk} {ag : Bool}
theorem PI.start : PI s n g g false 0 0 := ⟨fun _ => ⟨rfl, fun i' j' h => by omega⟩, fun h => by cases h⟩
theorem PI.skip (h : PI s n g0 g ag i j) (hv : (s j).getLsbD i = true → g i < g j) : PI s n g0 g ag i (j + 1) where
  same := fun e => ⟨(h.same e).1, fun i' j' hlt hi hj he => by
    by_cases h1 : i' = i ∧ j' = j
    · obtain ⟨rfl, rfl⟩ := h1; exact hv he
    · exact (h.same e).2 i' j' (by omega) hi hj he⟩
  less := h.less
theorem PI.row (h : PI s n g0 g ag i n) : PI s n g0 g ag (i + 1) 0 where
  same := fun e => ⟨(h.same e).1, fun i' j' hlt hi hj he => (h.same e).2 i' j' (by omega) hi hj he⟩
  less := h.less
theorem PI.grow (h : PI s n g0 g ag i j) (hr : RI s n g) (hi : i < n) (hj : j < n) (hv : g j ≤ g i) : PI s n g0 (upd g j (g i + 1)) true i (j + 1) where
  same := fun e => by cases e
  less := fun _ => by
    have h1 := gap_lt hr hi hj hv
    cases ag with
    | false => rw [← (h.same rfl).1]; exact h1
    | true => have := h.less rfl; omega
theorem PI.fin (h : PI s n g0 g false n 0) : Rise s n g := fun d x hd hx he => (h.same rfl).2 d x (.inl hd) hd hx he
end
abbrev flagN (b : Bool) : Nat := if b then 1 else 0
theorem flag_lt {s : Nat → W64} {n : Nat} {g0 g : Rk} {ag : Bool} {i j : Nat} (h : PI s n g0 g ag i j) : 2 * gapM n g + flagN ag < 2 * gapM n g0 + flagN true := by
  cases ag with
  | false => rw [(h.same rfl).1]; show 2 * gapM n g0 + 0 < 2 * gapM n g0 + 1; omega
  | true => have := h.less rfl; simp; omega
theorem rrank_p (n : Int) (c : Procs) (hs : ShortN c) (hz : sizeN c ≤ 1000) : Pure Try.prog gs0 8 [netA n c] (rankA (rankR n c)) := by
  have hmay := rmay_p n c hs hz
  cases hm : mayB n c with
  | false =>
    rw [hm] at hmay
    refine Pure.of (S := tt) (fn := Try.f8) (n := 58) tt_ok Try.func8 rfl rfl rfl rfl fun w0 h0 F hgs => ?_
    (repeat first|refine A.s rfl ?_|refine A.r rfl rfl ?_|refine A.w rfl rfl ?_|refine A.p rfl ?_|refine A.b rfl fun bx=>?_|refine A.t rfl fun bl=>?_|refine A.step rfl ?_|refine A.v rfl rfl ?_)
    refine A.c rfl hmay .refl ?_
    (repeat first|refine A.s rfl ?_|refine A.r rfl rfl ?_|refine A.w rfl rfl ?_|refine A.p rfl ?_|refine A.b rfl fun bx=>?_|refine A.t rfl fun bl=>?_|refine A.step rfl ?_|refine A.v rfl rfl ?_); refine A.ret2 (Λ' := []) rfl rfl rfl rfl (List.nil_sublist _) ⟨?_, rfl⟩; rw [rankR_no hm]; exact .tp (.cons .nil (.cons .refl .nil))
  | true =>
  rw [hm] at hmay
  have hv := (mayB_iff hz).1 hm
  have hin := hv.inB
  have hn := mayG_n hv.g
  obtain ⟨m, rfl⟩ : ∃ m : Nat, n = m := ⟨n.toNat, by omega⟩
  have hm64 : m ≤ 64 := by omega
  have hS := fun x d => before_lt hv x d
  have hprec := fun d x => prec_p m c d x hs
  have hbit := fun d x => before_bits hin d x
  generalize hsd : beforeF c = s at hS hbit
  refine Pure.of (S := tt) (fn := Try.f8) (n := 58) tt_ok Try.func8 rfl rfl rfl rfl fun w0 h0 F hgs => ?_
  (repeat first|refine A.s rfl ?_|refine A.r rfl rfl ?_|refine A.w rfl rfl ?_|refine A.p rfl ?_|refine A.b rfl fun bx=>?_|refine A.t rfl fun bl=>?_|refine A.step rfl ?_|refine A.v rfl rfl ?_)
  refine A.c rfl hmay .refl ?_
  (repeat first|refine A.s rfl ?_|refine A.r rfl rfl ?_|refine A.w rfl rfl ?_|refine A.p rfl ?_|refine A.b rfl fun bx=>?_|refine A.t rfl fun bl=>?_)
  refine A.makeV rfl rfl rfl rfl rfl rfl rfl rfl rfl rfl rfl rfl (by omega) ?_ (by omega) fun a cp hca => ?_
  · show (8 : Int) * _ ≤ _; omega
  (repeat first|refine A.s rfl ?_|refine A.r rfl rfl ?_|refine A.w rfl rfl ?_|refine A.p rfl ?_|refine A.b rfl fun bx=>?_|refine A.t rfl fun bl=>?_|refine A.step rfl ?_|refine A.v rfl rfl ?_)
  refine A.entsEq (Λ' := [.row 1 (.slice a m cp) (rkA m fun _ => 0), .box _ (.ag [AI m, procsA c])]) (by rw [rkA, List.map_const', List.length_range]; rfl) ?_
  refine A.keep [1, 4, 5] rfl ?_
  refine A.loopP (ι := Rk × Bool) (fun q => (⟨[(1, .v (.pointer (some ⟨_, 0, none⟩))), (4, .ms (.slice a m cp) 1 m), (5, AB q.2)], []⟩, [.row 1 (.slice a m cp) (rkA m q.1), .box _ (.ag [AI m, procsA c])]))
    (fun q => RI s m q.1 ∧ (q.2 = false → Rise s m q.1)) (fun q => 2 * gapM m q.1 + flagN q.2) (fun _ => 0, true) ⟨RI.start s hm64 hS, fun h => by cases h⟩ rfl fun q hi ih => ?_
  obtain ⟨g0, fl⟩ := q
  simp only at hi ih ⊢
  (repeat first|refine A.s rfl ?_|refine A.r rfl rfl ?_|refine A.w rfl rfl ?_|refine A.p rfl ?_|refine A.b rfl fun bx=>?_|refine A.t rfl fun bl=>?_|refine A.step rfl ?_|refine A.v rfl rfl ?_)
  refine A.cond rfl (fun hc => ?_) (fun hc => ?_)
  · subst hc
    (repeat first|refine A.s rfl ?_|refine A.r rfl rfl ?_|refine A.w rfl rfl ?_|refine A.p rfl ?_|refine A.b rfl fun bx=>?_|refine A.t rfl fun bl=>?_|refine A.step rfl ?_|refine A.v rfl rfl ?_)
    refine A.keep [1, 4, 5, 6] rfl ?_
    refine A.loopP (ι := Nat × Rk × Bool) (fun q => (⟨[(1, .v (.pointer (some ⟨_, 0, none⟩))), (4, .ms (.slice a m cp) 1 m), (5, AB q.2.2), (6, AI (q.1 : Nat))], []⟩, [.row 1 (.slice a m cp) (rkA m q.2.1), .box _ (.ag [AI m, procsA c])]))
      (fun q => q.1 ≤ m ∧ RI s m q.2.1 ∧ PI s m g0 q.2.1 q.2.2 q.1 0) (fun q => m - q.1) (0, g0, false) ⟨by simp, hi.1, PI.start⟩ rfl fun q hj jh => ?_
    obtain ⟨i, g1, f1⟩ := q
    simp only at hj jh ⊢
    (repeat first|refine A.s rfl ?_|refine A.r rfl rfl ?_|refine A.w rfl rfl ?_|refine A.p rfl ?_|refine A.b rfl fun bx=>?_|refine A.t rfl fun bl=>?_|refine A.step rfl ?_|refine A.v rfl rfl ?_)
    refine A.cond rfl (fun hc => ?_) (fun hc => ?_)
    · simp at hc
      have him : i < m := by omega
      (repeat first|refine A.s rfl ?_|refine A.r rfl rfl ?_|refine A.w rfl rfl ?_|refine A.p rfl ?_|refine A.b rfl fun bx=>?_|refine A.t rfl fun bl=>?_|refine A.step rfl ?_|refine A.v rfl rfl ?_)
      refine A.keep [1, 4, 5, 6, 7] rfl ?_
      refine A.loopP (ι := Nat × Rk × Bool) (fun q => (⟨[(1, .v (.pointer (some ⟨_, 0, none⟩))), (4, .ms (.slice a m cp) 1 m), (5, AB q.2.2), (6, AI (i : Nat)), (7, AI (q.1 : Nat))], []⟩, [.row 1 (.slice a m cp) (rkA m q.2.1), .box _ (.ag [AI m, procsA c])]))
        (fun q => q.1 ≤ m ∧ RI s m q.2.1 ∧ PI s m g0 q.2.1 q.2.2 i q.1) (fun q => m - q.1) (0, g1, f1) ⟨by simp, hj.2⟩ rfl fun q hk kh => ?_
      obtain ⟨j, g, ag⟩ := q
      simp only at hk kh ⊢
      obtain ⟨hjm0, hR, hP⟩ := hk
      (repeat first|refine A.s rfl ?_|refine A.r rfl rfl ?_|refine A.w rfl rfl ?_|refine A.p rfl ?_|refine A.b rfl fun bx=>?_|refine A.t rfl fun bl=>?_|refine A.step rfl ?_|refine A.v rfl rfl ?_)
      refine A.cond rfl (fun hc => ?_) (fun hc => ?_)
      · simp at hc
        have hjm : j < m := by omega
        have hb := hbit i j (by omega)
        have hli := hR.lo i him
        have hlj := hR.lo j hjm
        (repeat first|refine A.s rfl ?_|refine A.r rfl rfl ?_|refine A.w rfl rfl ?_|refine A.p rfl ?_|refine A.b rfl fun bx=>?_|refine A.t rfl fun bl=>?_)
        refine A.draw 13 [0, 1, 2, 3, 4, 5, 6, 7, 8, 9, 10, 11, 12] noPubs [(3, AB (preB c (i : Nat) (j : Nat)))] (by kernel_rfl) (by kernel_rfl) ?_
        (repeat first|refine WA.s rfl ?_|refine WA.r rfl rfl ?_|refine WA.p rfl ?_)
        refine WA.c rfl rfl (hprec (i : Nat) (j : Nat)) (.sub .refl) ?_
        (repeat first|refine WA.s rfl ?_|refine WA.r rfl rfl ?_|refine WA.p rfl ?_)
        refine WA.gS rfl (fun hc => ?_) (fun hc => ?_)
        · rw [hc] at hb
          (repeat first|refine WA.s rfl ?_|refine WA.r rfl rfl ?_|refine WA.p rfl ?_)
          refine WA.indexRow rfl rfl rfl rfl rfl rfl rfl rfl rfl (by omega) (by rw [rkA_len]; omega) rfl ?_
          refine WA.loadRow rfl rfl rfl rfl rfl rfl rfl (y' := AI _) rfl (range_at _ hjm) rfl rfl ?_
          (repeat first|refine WA.s rfl ?_|refine WA.r rfl rfl ?_|refine WA.p rfl ?_)
          refine WA.indexRow rfl rfl rfl rfl rfl rfl rfl rfl rfl (by omega) (by rw [rkA_len]; omega) rfl ?_
          refine WA.loadRow rfl rfl rfl rfl rfl rfl rfl (y' := AI _) rfl (range_at _ him) rfl rfl ?_
          (repeat first|refine WA.s rfl ?_|refine WA.r rfl rfl ?_|refine WA.p rfl ?_)
          refine WA.nil (l := []) rfl ?_
          (repeat first|refine A.s rfl ?_|refine A.r rfl rfl ?_|refine A.w rfl rfl ?_|refine A.p rfl ?_|refine A.b rfl fun bx=>?_|refine A.t rfl fun bl=>?_|refine A.step rfl ?_|refine A.v rfl rfl ?_)
          refine A.valE 41 rfl (x' := AB (decide (g j ≤ g i))) rfl ?_
          refine A.cond rfl (fun hc => ?_) (fun hc => ?_)
          · simp at hc
            (repeat first|refine A.s rfl ?_|refine A.r rfl rfl ?_|refine A.w rfl rfl ?_|refine A.p rfl ?_|refine A.b rfl fun bx=>?_|refine A.t rfl fun bl=>?_)
            refine A.indexRow rfl rfl rfl rfl rfl rfl rfl rfl (by omega) (by rw [rkA_len]; omega) rfl ?_
            refine A.loadRow rfl rfl rfl rfl rfl rfl (y' := AI (g i)) rfl (range_at _ him) rfl rfl ?_
            (repeat first|refine A.s rfl ?_|refine A.r rfl rfl ?_|refine A.w rfl rfl ?_|refine A.p rfl ?_|refine A.b rfl fun bx=>?_|refine A.t rfl fun bl=>?_)
            refine A.valE 48 rfl (x' := AI (g i + 1)) (ai_eq (w64_id (by unfold i64; omega))) ?_
            refine A.indexRow rfl rfl rfl rfl rfl rfl rfl rfl (by omega) (by rw [rkA_len]; omega) rfl ?_
            refine A.storeRow rfl rfl rfl rfl rfl rfl rfl rfl rfl (by rw [rkA_len]; exact hjm) (xs' := rkA m (upd g j (g i + 1))) (range_set AI _ j _) ?_
            (repeat first|refine A.s rfl ?_|refine A.r rfl rfl ?_|refine A.w rfl rfl ?_|refine A.p rfl ?_|refine A.b rfl fun bx=>?_|refine A.t rfl fun bl=>?_|refine A.step rfl ?_|refine A.v rfl rfl ?_)
            refine A.draw 6 [0, 1, 2, 3, 4, 5] noPubs [] (by kernel_rfl) (by kernel_rfl) ?_
            (repeat first|refine WA.s rfl ?_|refine WA.r rfl rfl ?_|refine WA.p rfl ?_)
            refine WA.indexRow rfl rfl rfl rfl rfl rfl rfl rfl rfl (by omega) (by rw [rkA_len]; omega) rfl ?_
            refine WA.loadRow rfl rfl rfl rfl rfl rfl rfl (y' := AI (g i + 1)) rfl (range_at _ hjm) (by simp [upd]) rfl ?_
            (repeat first|refine WA.s rfl ?_|refine WA.r rfl rfl ?_|refine WA.p rfl ?_)
            refine WA.nil (l := []) rfl ?_
            (repeat first|refine A.s rfl ?_|refine A.r rfl rfl ?_|refine A.w rfl rfl ?_|refine A.p rfl ?_|refine A.b rfl fun bx=>?_|refine A.t rfl fun bl=>?_|refine A.step rfl ?_|refine A.v rfl rfl ?_)
            refine A.cond rfl (fun hc => ?_) (fun hc => ?_)
            · have hov : (m : Int) < g i + 1 := by simpa using hc
              (repeat first|refine A.s rfl ?_|refine A.r rfl rfl ?_|refine A.w rfl rfl ?_|refine A.p rfl ?_|refine A.b rfl fun bx=>?_|refine A.t rfl fun bl=>?_|refine A.step rfl ?_|refine A.v rfl rfl ?_); refine A.ret2 (Λ' := []) rfl rfl rfl rfl (List.nil_sublist _) ⟨?_, rfl⟩
              rw [rankR_none hm (by rw [hsd]; exact hR.over hm64 hS him hjm hb hov)]
              exact .tp (.cons .nil (.cons .refl .nil))
            · have hov : g i + 1 ≤ (m : Int) := by simpa using hc
              (repeat first|refine A.s rfl ?_|refine A.r rfl rfl ?_|refine A.w rfl rfl ?_|refine A.p rfl ?_|refine A.b rfl fun bx=>?_|refine A.t rfl fun bl=>?_|refine A.step rfl ?_|refine A.v rfl rfl ?_)
              refine A.valE 7 rfl (x' := AI ((j + 1 : Nat) : Int)) (inc_eq j (by omega)) ?_
              refine A.sub (by repeat (first | exact trivial | refine ⟨⟨_, rfl, .refl⟩, ?_⟩)) (kh (j + 1, upd g j (g i + 1), true) ⟨by simp only; omega, hR.step hm64 hS him hjm hb hov, hP.grow hR him hjm (by simpa using ‹_›)⟩ (by simp only; omega))
          · have hok : g i < g j := by simpa using hc
            (repeat first|refine A.s rfl ?_|refine A.r rfl rfl ?_|refine A.w rfl rfl ?_|refine A.p rfl ?_|refine A.b rfl fun bx=>?_|refine A.t rfl fun bl=>?_|refine A.step rfl ?_|refine A.v rfl rfl ?_)
            refine A.draw 6 [0, 1, 2, 3, 4, 5] noPubs [] (by kernel_rfl) (by kernel_rfl) ?_
            (repeat first|refine WA.s rfl ?_|refine WA.r rfl rfl ?_|refine WA.p rfl ?_)
            refine WA.indexRow rfl rfl rfl rfl rfl rfl rfl rfl rfl (by omega) (by rw [rkA_len]; omega) rfl ?_
            refine WA.loadRow rfl rfl rfl rfl rfl rfl rfl (y' := AI (g j)) rfl (range_at _ hjm) rfl rfl ?_
            (repeat first|refine WA.s rfl ?_|refine WA.r rfl rfl ?_|refine WA.p rfl ?_)
            refine WA.nil (l := []) rfl ?_
            (repeat first|refine A.s rfl ?_|refine A.r rfl rfl ?_|refine A.w rfl rfl ?_|refine A.p rfl ?_|refine A.b rfl fun bx=>?_|refine A.t rfl fun bl=>?_|refine A.step rfl ?_|refine A.v rfl rfl ?_)
            refine A.valE 56 rfl (x' := AB false) (ab_eq (by simp; omega)) ?_
            (repeat first|refine A.s rfl ?_|refine A.r rfl rfl ?_|refine A.w rfl rfl ?_|refine A.p rfl ?_|refine A.b rfl fun bx=>?_|refine A.t rfl fun bl=>?_|refine A.step rfl ?_|refine A.v rfl rfl ?_)
            refine A.valE 7 rfl (x' := AI ((j + 1 : Nat) : Int)) (inc_eq j (by omega)) ?_
            refine A.sub (by repeat (first | exact trivial | refine ⟨⟨_, rfl, .refl⟩, ?_⟩)) (kh (j + 1, g, ag) ⟨by simp only; omega, hR, hP.skip fun _ => hok⟩ (by simp only; omega))
        · rw [hc] at hb
          (repeat first|refine WA.s rfl ?_|refine WA.r rfl rfl ?_|refine WA.p rfl ?_)
          refine WA.nil (l := []) rfl ?_
          (repeat first|refine A.s rfl ?_|refine A.r rfl rfl ?_|refine A.w rfl rfl ?_|refine A.p rfl ?_|refine A.b rfl fun bx=>?_|refine A.t rfl fun bl=>?_|refine A.step rfl ?_|refine A.v rfl rfl ?_)
          refine A.draw 6 [0, 1, 2, 3, 4, 5] noPubs [] (by kernel_rfl) (by kernel_rfl) ?_
          (repeat first|refine WA.s rfl ?_|refine WA.r rfl rfl ?_|refine WA.p rfl ?_)
          refine WA.indexRow rfl rfl rfl rfl rfl rfl rfl rfl rfl (by omega) (by rw [rkA_len]; omega) rfl ?_
          refine WA.loadRow rfl rfl rfl rfl rfl rfl rfl (y' := AI (g j)) rfl (range_at _ hjm) rfl rfl ?_
          (repeat first|refine WA.s rfl ?_|refine WA.r rfl rfl ?_|refine WA.p rfl ?_)
          refine WA.nil (l := []) rfl ?_
          (repeat first|refine A.s rfl ?_|refine A.r rfl rfl ?_|refine A.w rfl rfl ?_|refine A.p rfl ?_|refine A.b rfl fun bx=>?_|refine A.t rfl fun bl=>?_|refine A.step rfl ?_|refine A.v rfl rfl ?_)
          refine A.valE 56 rfl (x' := AB false) (ab_eq (by simp; omega)) ?_
          (repeat first|refine A.s rfl ?_|refine A.r rfl rfl ?_|refine A.w rfl rfl ?_|refine A.p rfl ?_|refine A.b rfl fun bx=>?_|refine A.t rfl fun bl=>?_|refine A.step rfl ?_|refine A.v rfl rfl ?_)
          refine A.valE 7 rfl (x' := AI ((j + 1 : Nat) : Int)) (inc_eq j (by omega)) ?_
          refine A.sub (by repeat (first | exact trivial | refine ⟨⟨_, rfl, .refl⟩, ?_⟩)) (kh (j + 1, g, ag) ⟨by simp only; omega, hR, hP.skip fun e => by rw [hb] at e; cases e⟩ (by simp only; omega))
      · simp at hc
        have hjm : j = m := by omega
        rw [hjm] at hP
        (repeat first|refine A.s rfl ?_|refine A.r rfl rfl ?_|refine A.w rfl rfl ?_|refine A.p rfl ?_|refine A.b rfl fun bx=>?_|refine A.t rfl fun bl=>?_|refine A.step rfl ?_|refine A.v rfl rfl ?_)
        refine A.valE 6 rfl (x' := AI ((i + 1 : Nat) : Int)) (inc_eq i (by omega)) ?_
        refine A.sub (by repeat (first | exact trivial | refine ⟨⟨_, rfl, .refl⟩, ?_⟩)) (jh (i + 1, g, ag) ⟨by simp only; omega, hR, hP.row⟩ (by simp only; omega))
    · simp at hc
      have him : i = m := by omega
      have hP := hj.2.2
      rw [him] at hP
      (repeat first|refine A.s rfl ?_|refine A.r rfl rfl ?_|refine A.w rfl rfl ?_|refine A.p rfl ?_|refine A.b rfl fun bx=>?_|refine A.t rfl fun bl=>?_|refine A.step rfl ?_|refine A.v rfl rfl ?_)
      refine A.sub (by repeat (first | exact trivial | refine ⟨⟨_, rfl, .refl⟩, ?_⟩)) (ih (g1, f1) ⟨hj.2.1, fun e => by simp only at e; subst e; exact hP.fin⟩ (flag_lt hP))
  · subst hc
    refine Exists.elim (hi.1.done hm64 hS (hi.2 rfl)) fun rk hrk => ?_
    refine A.freezeRow 4 rfl ?_
    (repeat first|refine A.s rfl ?_|refine A.r rfl rfl ?_|refine A.w rfl rfl ?_|refine A.p rfl ?_|refine A.b rfl fun bx=>?_|refine A.t rfl fun bl=>?_|refine A.step rfl ?_|refine A.v rfl rfl ?_); refine A.ret2 (Λ' := []) rfl rfl rfl rfl (List.nil_sublist _) ⟨?_, rfl⟩
    rw [rankR_some hm (by rw [hsd]; exact hrk.1)]
    show Sb (.tp [_, _]) (.tp [rowA _, AI 0])
    rw [row_rkA]
    have : rkA m g0 = rkA m rk := List.map_congr_left fun x hx => by rw [hrk.2 x (List.mem_range.1 hx)]
    rw [this]; exact .refl
end Go.Proofs.Ytpilobbmijpnoaa
