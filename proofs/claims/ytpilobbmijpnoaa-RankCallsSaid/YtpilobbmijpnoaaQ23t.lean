/-
  Chapter 23: Cycle of the reference, and the law of calls.
-/
import Derived.Test.YtpilobbmijpnoaaQ23s
import Derived.Test.YtpilobbmijpnoaaQ23i

namespace Go.Proofs.Ytpilobbmijpnoaa
open Go Go.Tp
set_option linter.unusedVariables false
set_option linter.unusedSimpArgs false
set_option maxRecDepth 100000
set_option maxHeartbeats 4000000

/-- the best one so far, from the last channel down to lo -/
def DownI (s : Nat → W64) (n lo f : Nat) (b : Int) : Prop := (b = 1000 ∧ ∀ x, lo ≤ x → x < n → farF s x x = 0) ∨ (lo ≤ f ∧ f < n ∧ farF s f f = b ∧ 0 < b ∧ b ≤ 66 ∧ ∀ x, lo ≤ x → x < n → 0 < farF s x x → b ≤ farF s x x ∧ (farF s x x = b → f ≤ x))
theorem DownI.next {s : Nat → W64} {n lo f : Nat} {b : Int} (hn : n ≤ 64) (h : DownI s n (lo + 1) f b) (hlo : lo < n) :
    (wayL s lo lo ≤ b → DownI s n lo lo (wayL s lo lo)) ∧ (¬ wayL s lo lo ≤ b → DownI s n lo f b) := by
  have hf := far_le (s := s) (to := lo) (x := lo) (by omega) (by omega)
  have hcase : ∀ x, lo ≤ x → x = lo ∨ lo + 1 ≤ x := fun x hx => by omega
  unfold wayL
  by_cases h0 : farF s lo lo = 0
  · rw [if_pos h0]
    rcases h with ⟨rfl, h1⟩ | ⟨h1, h2, h3, h4, h5, h6⟩
    · refine ⟨fun _ => .inl ⟨rfl, fun x hx hxn => ?_⟩, fun hn => (hn (Int.le_refl _)).elim⟩
      rcases hcase x hx with rfl | hx
      · exact h0
      · exact h1 x hx hxn
    · refine ⟨fun hle => by omega, fun _ => .inr ⟨by omega, h2, h3, h4, h5, fun x hx hxn hp => ?_⟩⟩
      rcases hcase x hx with rfl | hx
      · omega
      · exact h6 x hx hxn hp
  · rw [if_neg h0]
    rcases h with ⟨rfl, h1⟩ | ⟨h1, h2, h3, h4, h5, h6⟩
    · refine ⟨fun _ => .inr ⟨Nat.le_refl _, hlo, rfl, by omega, by omega, fun x hx hxn hp => ?_⟩, fun hn => by omega⟩
      rcases hcase x hx with rfl | hx
      · exact ⟨Int.le_refl _, fun _ => Nat.le_refl _⟩
      · have := h1 x hx hxn; omega
    · refine ⟨fun hle => .inr ⟨Nat.le_refl _, hlo, rfl, by omega, by omega, fun x hx hxn hp => ?_⟩, fun hgt => .inr ⟨by omega, h2, h3, h4, h5, fun x hx hxn hp => ?_⟩⟩
      · rcases hcase x hx with rfl | hx
        · exact ⟨Int.le_refl _, fun _ => Nat.le_refl _⟩
        · have := h6 x hx hxn hp
          exact ⟨by omega, fun _ => by omega⟩
      · rcases hcase x hx with rfl | hx
        · exact ⟨by omega, fun e => by omega⟩
        · exact h6 x hx hxn hp
theorem DownI.fin {s : Nat → W64} {n f : Nat} {b : Int} (h : DownI s n 0 f b) : (b = 1000 ∧ bestF s n = (-1, 0)) ∨ (b < 1000 ∧ f < n ∧ farF s f f = b ∧ bestF s n = ((f : Int), b)) := by
  rcases h with ⟨h1, h2⟩ | ⟨h1, h2, h3, h4, h5, h6⟩
  · left
    refine ⟨h1, ?_⟩
    rcases bestF_spec s n with ⟨h, _⟩ | ⟨f', _, hb⟩
    · exact h
    · have := h2 f' (Nat.zero_le _) hb.lt
      have := hb.eq
      have := hb.pos
      omega
  · right
    refine ⟨by omega, h2, h3, ?_⟩
    have hb : Best s n f b := ⟨h2, h3, h4, fun x hx hp => h6 x (Nat.zero_le _) hx hp⟩
    rcases bestF_spec s n with ⟨_, h⟩ | ⟨f', e, hb'⟩
    · exact (h f h2 (by omega)).elim
    · obtain ⟨e1, e2⟩ := hb.uniq hb'
      refine Prod.ext ?_ ?_
      · rw [e, e1]
      · exact e2.symm
theorem wayL_eq {s : Nat → W64} {to x : Nat} (ht : to < 64) (hx : x < 64) {v : Int} (h1 : 1 ≤ v) (h2 : v ≤ 66) : (wayL s to x = v ↔ farF s to x = v) := by
  have := far_le (s := s) ht hx
  unfold wayL
  split <;> omega
theorem find_range {P : Nat → Bool} {n d : Nat} (hd : d < n) (h : P d = true) (hb : ∀ d', d' < d → P d' = false) : (List.range n).find? P = some d := by
  rw [List.find?_eq_some_iff_getElem]
  refine ⟨h, d, by rw [List.length_range]; exact hd, by simp, fun j hj => ?_⟩
  simp [hb j hj]
theorem rcycle_p (n : Int) (c : Procs) (hs : ShortN c) (hz : sizeN c ≤ 1000) : Pure Try.prog gs0 10 [netA n c] (cycA (cycR1 n c)) := by
  have hmay := rmay_p n c hs hz
  cases hm : mayB n c with
  | false =>
    rw [hm] at hmay
    refine Pure.of (S := tt) (fn := Try.f10) (n := 79) tt_ok Try.func10 rfl rfl rfl rfl fun w0 h0 F hgs => ?_
    (repeat first|refine A.s rfl ?_|refine A.r rfl rfl ?_|refine A.w rfl rfl ?_|refine A.p rfl ?_|refine A.b rfl fun bx=>?_|refine A.t rfl fun bl=>?_|refine A.step rfl ?_|refine A.v rfl rfl ?_)
    refine A.c rfl hmay .refl ?_
    (repeat first|refine A.s rfl ?_|refine A.r rfl rfl ?_|refine A.w rfl rfl ?_|refine A.p rfl ?_|refine A.b rfl fun bx=>?_|refine A.t rfl fun bl=>?_|refine A.step rfl ?_|refine A.v rfl rfl ?_); refine A.ret2 (Λ' := []) rfl rfl rfl rfl (List.nil_sublist _) ⟨?_, rfl⟩; rw [cycR1_no hm]; exact .tp (.cons .nil (.cons .refl .nil))
  | true =>
  rw [hm] at hmay
  have hv := (mayB_iff hz).1 hm
  have hin := hv.inB
  have hn := mayG_n hv.g
  obtain ⟨m, rfl⟩ : ∃ m : Nat, n = m := ⟨n.toNat, by omega⟩
  have hm64 : m ≤ 64 := by omega
  have hS := fun x d => before_lt hv x d
  have hprec := fun d x => prec_p m c d x hs
  have hbit := fun d x => before_bits hin d x
  have hways := fun to (ht : to < m) => ways_p m c to hs hv ht
  generalize hsd : beforeF c = s at hS hbit hways
  have hrow : ∀ to x, x < m → ((List.range m).map (wayL s to)).map AI = rkA m (wayL s to) ∧ (rkA m (wayL s to))[x]? = some (AI (wayL s to x)) := fun to x hx => ⟨by rw [List.map_map]; rfl, range_at _ hx⟩
  refine Pure.of (S := tt) (fn := Try.f10) (n := 79) tt_ok Try.func10 rfl rfl rfl rfl fun w0 h0 F hgs => ?_
  (repeat first|refine A.s rfl ?_|refine A.r rfl rfl ?_|refine A.w rfl rfl ?_|refine A.p rfl ?_|refine A.b rfl fun bx=>?_|refine A.t rfl fun bl=>?_|refine A.step rfl ?_|refine A.v rfl rfl ?_)
  refine A.c rfl hmay .refl ?_
  (repeat first|refine A.s rfl ?_|refine A.r rfl rfl ?_|refine A.w rfl rfl ?_|refine A.p rfl ?_|refine A.b rfl fun bx=>?_|refine A.t rfl fun bl=>?_|refine A.step rfl ?_|refine A.v rfl rfl ?_)
  refine A.valE 6 rfl (x' := AI ((m : Int) - 1)) (ai_eq (w64_id (by unfold i64; omega))) ?_
  refine A.keep [1, 4, 5, 6] rfl ?_
  refine A.loopP (ι := Nat × Nat × Int) (fun q => (⟨[(1, .v (.pointer (some ⟨_, 0, none⟩))), (4, AI q.2.2), (5, AI (q.2.1 : Nat)), (6, AI ((q.1 : Int) - 1))], []⟩, [.box _ (.ag [AI m, procsA c])]))
    (fun q => q.1 ≤ m ∧ DownI s m q.1 q.2.1 q.2.2) (fun q => q.1) (m, 0, 1000) ⟨Nat.le_refl _, .inl ⟨rfl, fun x h1 h2 => by simp only at h1; omega⟩⟩ rfl fun q hi ih => ?_
  obtain ⟨k, fst, best⟩ := q
  simp only at hi ih ⊢
  (repeat first|refine A.s rfl ?_|refine A.r rfl rfl ?_|refine A.w rfl rfl ?_|refine A.p rfl ?_|refine A.b rfl fun bx=>?_|refine A.t rfl fun bl=>?_|refine A.step rfl ?_|refine A.v rfl rfl ?_)
  refine A.cond rfl (fun hc => ?_) (fun hc => ?_)
  · simp at hc
    obtain ⟨i, rfl⟩ : ∃ i, k = i + 1 := ⟨k - 1, by omega⟩
    have him : i < m := by omega
    obtain ⟨d1, d2⟩ := hi.2.next hm64 him
    (repeat first|refine A.s rfl ?_|refine A.r rfl rfl ?_|refine A.w rfl rfl ?_|refine A.p rfl ?_|refine A.b rfl fun bx=>?_|refine A.t rfl fun bl=>?_)
    refine A.valE 23 rfl (x' := AI (i : Nat)) (ai_eq (by push_cast; omega)) ?_
    refine A.c rfl (hways i him) .refl ?_
    (repeat first|refine A.s rfl ?_|refine A.r rfl rfl ?_|refine A.w rfl rfl ?_|refine A.p rfl ?_|refine A.b rfl fun bx=>?_|refine A.t rfl fun bl=>?_)
    refine A.x rfl (by omega) (by rw [(hrow i i him).1, show (((i + 1 : Nat) : Int) - 1).toNat = i by omega]; exact (hrow i i him).2) rfl rfl ?_
    (repeat first|refine A.s rfl ?_|refine A.r rfl rfl ?_|refine A.w rfl rfl ?_|refine A.p rfl ?_|refine A.b rfl fun bx=>?_|refine A.t rfl fun bl=>?_|refine A.step rfl ?_|refine A.v rfl rfl ?_)
    refine A.cond rfl (fun hc => ?_) (fun hc => ?_)
    · have hle : wayL s i i ≤ best := by simpa using hc
      (repeat first|refine A.s rfl ?_|refine A.r rfl rfl ?_|refine A.w rfl rfl ?_|refine A.p rfl ?_|refine A.b rfl fun bx=>?_|refine A.t rfl fun bl=>?_|refine A.step rfl ?_|refine A.v rfl rfl ?_)
      refine A.valE 5 rfl (x' := AI (i : Nat)) (ai_eq (by push_cast; omega)) ?_
      refine A.valE 6 rfl (x' := AI ((i : Int) - 1)) (ai_eq (by rw [w64_id (by unfold i64; omega)]; push_cast; omega)) ?_
      refine A.sub (by repeat (first | exact trivial | refine ⟨⟨_, rfl, .refl⟩, ?_⟩)) (ih (i, i, wayL s i i) ⟨by simp only; omega, d1 hle⟩ (by simp only; omega))
    · have hle : ¬ wayL s i i ≤ best := by simpa using hc
      (repeat first|refine A.s rfl ?_|refine A.r rfl rfl ?_|refine A.w rfl rfl ?_|refine A.p rfl ?_|refine A.b rfl fun bx=>?_|refine A.t rfl fun bl=>?_|refine A.step rfl ?_|refine A.v rfl rfl ?_)
      refine A.valE 6 rfl (x' := AI ((i : Int) - 1)) (ai_eq (by rw [w64_id (by unfold i64; omega)]; push_cast; omega)) ?_
      refine A.sub (by repeat (first | exact trivial | refine ⟨⟨_, rfl, .refl⟩, ?_⟩)) (ih (i, fst, best) ⟨by simp only; omega, d2 hle⟩ (by simp only; omega))
  simp at hc
  have hk0 : k = 0 := by omega
  subst hk0
  have hfin := hi.2.fin
  (repeat first|refine A.s rfl ?_|refine A.r rfl rfl ?_|refine A.w rfl rfl ?_|refine A.p rfl ?_|refine A.b rfl fun bx=>?_|refine A.t rfl fun bl=>?_|refine A.step rfl ?_|refine A.v rfl rfl ?_)
  refine A.cond rfl (fun hc => ?_) (fun hc => ?_)
  · have hb : 1000 ≤ best := by simpa using hc
    rcases hfin with ⟨_, hbf⟩ | ⟨h1, _⟩
    · (repeat first|refine A.s rfl ?_|refine A.r rfl rfl ?_|refine A.w rfl rfl ?_|refine A.p rfl ?_|refine A.b rfl fun bx=>?_|refine A.t rfl fun bl=>?_|refine A.step rfl ?_|refine A.v rfl rfl ?_); refine A.ret2 (Λ' := []) rfl rfl rfl rfl (List.nil_sublist _) ⟨?_, rfl⟩
      rw [cycR1_none hm (by rw [hsd, cycV, hbf]; rfl)]
      exact .tp (.cons .nil (.cons .refl .nil))
    · omega
  have hb : ¬ 1000 ≤ best := by simpa using hc
  refine Exists.elim (show ∃ _ : Nat, fst < m ∧ farF s fst fst = best ∧ bestF s m = ((fst : Int), best) from ?_) fun _ hf => ?_
  · rcases hfin with ⟨h1, _⟩ | ⟨_, h2, h3, h4⟩
    · omega
    · exact ⟨0, h2, h3, h4⟩
  obtain ⟨hfm, hff, hbf⟩ := hf
  have hf64 : fst < 64 := by omega
  have hfl := far_le (s := s) hf64 hf64
  have hcv : cycV s m = some (fst :: cycR s m (farF s fst) best 66 fst 1) := by rw [cycV, hbf, if_neg (by simp only; omega)]; rfl
  (repeat first|refine A.s rfl ?_|refine A.r rfl rfl ?_|refine A.w rfl rfl ?_|refine A.p rfl ?_|refine A.b rfl fun bx=>?_|refine A.t rfl fun bl=>?_)
  refine A.c rfl (hways fst hfm) .refl ?_
  (repeat first|refine A.s rfl ?_|refine A.r rfl rfl ?_|refine A.w rfl rfl ?_|refine A.p rfl ?_|refine A.b rfl fun bx=>?_|refine A.t rfl fun bl=>?_|refine A.step rfl ?_|refine A.v rfl rfl ?_)
  refine A.fullTail 1 1 (some ⟨bl, 0, none⟩) (fun h => by cases h) (fun x hx => by injection hx with hx; subst hx; rfl) ?_
  refine A.keep [1, 4, 8, 9, 10] rfl ?_
  refine A.loopP (ι := List Nat × Nat × Value × Nat) (fun q => (⟨[(1, .v (.pointer (some ⟨_, 0, none⟩))), (4, AI best), (8, rowA ((List.range m).map (wayL s fst))), (9, .sl 1 (natsA (q.1 ++ [q.2.1])) (some q.2.2.1)), (10, AI (q.2.1 : Nat))], []⟩, [.tail 1 q.2.2.1, .box _ (.ag [AI m, procsA c])]))
    (fun q => some ((q.1 ++ [q.2.1]) ++ cycR s m (farF s fst) best q.2.2.2 q.2.1 ((q.1.length : Int) + 1)) = cycV s m ∧ q.2.1 < m ∧ q.1.length + 1 + q.2.2.2 = 67 ∧ farF s fst q.2.1 = best - q.1.length) (fun q => q.2.2.2) ([], fst, _, 66) ⟨by rw [hcv]; rfl, hfm, rfl, by simp only [List.length_nil]; omega⟩ rfl fun q hi2 ih2 => ?_
  obtain ⟨l0, at1, z, f⟩ := q
  simp only at hi2 ih2 ⊢
  obtain ⟨h1, h2, h3, h4⟩ := hi2
  have hll : ((natsA (l0 ++ [at1])).length : Int) = ((l0.length + 1 : Nat) : Int) := by rw [List.length_map, List.length_append]; rfl
  have at64 : at1 < 64 := by omega
  (repeat first|refine A.s rfl ?_|refine A.r rfl rfl ?_|refine A.w rfl rfl ?_|refine A.p rfl ?_|refine A.b rfl fun bx=>?_|refine A.t rfl fun bl=>?_)
  refine A.valE 42 rfl (x' := AI ((l0.length + 1 : Nat) : Int)) (ai_eq hll) ?_
  (repeat first|refine A.s rfl ?_|refine A.r rfl rfl ?_|refine A.w rfl rfl ?_|refine A.p rfl ?_|refine A.b rfl fun bx=>?_|refine A.t rfl fun bl=>?_)
  refine A.cond rfl (fun hc => ?_) (fun hc => ?_)
  · simp at hc
    have hlb : (l0.length : Int) + 1 < best := by omega
    obtain ⟨f', rfl⟩ : ∃ f', f = f' + 1 := ⟨f - 1, by omega⟩
    rw [cycR, if_pos (by omega)] at h1
    refine Exists.elim (far_next (s := s) hf64 at64 (by omega)) fun y0 hy0 => ?_
    (repeat first|refine A.s rfl ?_|refine A.r rfl rfl ?_|refine A.w rfl rfl ?_|refine A.p rfl ?_|refine A.b rfl fun bx=>?_|refine A.t rfl fun bl=>?_|refine A.step rfl ?_|refine A.v rfl rfl ?_)
    refine A.keep [1, 4, 8, 9, 10, 11] rfl ?_
    refine A.loopP (ι := Nat) (fun d => (⟨[(1, .v (.pointer (some ⟨_, 0, none⟩))), (4, AI best), (8, rowA ((List.range m).map (wayL s fst))), (9, .sl 1 (natsA (l0 ++ [at1])) (some z)), (10, AI (at1 : Nat)), (11, AI (d : Nat))], []⟩, [.tail 1 z, .box _ (.ag [AI m, procsA c])]))
      (fun d => d ≤ m ∧ ∀ d', d' < d → nxtB s (farF s fst) at1 (best - ((l0.length : Int) + 1)) d' = false) (fun d => m - d) 0 ⟨by omega, fun d' h => by omega⟩ rfl fun d hd dh => ?_
    (repeat first|refine A.s rfl ?_|refine A.r rfl rfl ?_|refine A.w rfl rfl ?_|refine A.p rfl ?_|refine A.b rfl fun bx=>?_|refine A.t rfl fun bl=>?_)
    ((fail_if_success (refine A.lit? rfl ?_)); refine A.gS rfl (fun hc => ?_) (fun hc => ?_))
    · simp at hc
      have hdm : d < m := by omega
      have hd64 : d < 64 := by omega
      have hb2 := hbit d at1 hd64
      have hwe := wayL_eq (s := s) hf64 hd64 (v := best - ((l0.length : Int) + 1)) (by omega) (by omega)
      (repeat first|refine A.s rfl ?_|refine A.r rfl rfl ?_|refine A.w rfl rfl ?_|refine A.p rfl ?_|refine A.b rfl fun bx=>?_|refine A.t rfl fun bl=>?_)
      refine A.c rfl (hprec (d : Nat) (at1 : Nat)) .refl ?_
      (repeat first|refine A.s rfl ?_|refine A.r rfl rfl ?_|refine A.w rfl rfl ?_|refine A.p rfl ?_|refine A.b rfl fun bx=>?_|refine A.t rfl fun bl=>?_)
      ((fail_if_success (refine A.lit? rfl ?_)); refine A.gS rfl (fun hc => ?_) (fun hc => ?_))
      · have hpr : (s at1).getLsbD d = false := by rw [hb2]; simpa using hc
        have hno : nxtB s (farF s fst) at1 (best - ((l0.length : Int) + 1)) d = false := by rw [nxtB, hpr]; rfl
        (repeat first|refine A.s rfl ?_|refine A.r rfl rfl ?_|refine A.w rfl rfl ?_|refine A.p rfl ?_|refine A.b rfl fun bx=>?_|refine A.t rfl fun bl=>?_|refine A.step rfl ?_|refine A.v rfl rfl ?_)
        refine A.valE 11 rfl (x' := AI ((d + 1 : Nat) : Int)) (inc_eq d (by omega)) ?_
        refine A.sub (by repeat (first | exact trivial | refine ⟨⟨_, rfl, .refl⟩, ?_⟩)) (dh (d + 1) ⟨by omega, fun d' h => ?_⟩ (by omega))
        by_cases hdd : d' = d
        · subst hdd; exact hno
        · exact hd.2 d' (by omega)
      have hpr : (s at1).getLsbD d = true := by rw [hb2]; simpa using hc
      (repeat first|refine A.s rfl ?_|refine A.r rfl rfl ?_|refine A.w rfl rfl ?_|refine A.p rfl ?_|refine A.b rfl fun bx=>?_|refine A.t rfl fun bl=>?_)
      refine A.x rfl (by omega) (by rw [(hrow fst d hdm).1]; exact (hrow fst d hdm).2) rfl rfl ?_
      (repeat first|refine A.s rfl ?_|refine A.r rfl rfl ?_|refine A.w rfl rfl ?_|refine A.p rfl ?_|refine A.b rfl fun bx=>?_|refine A.t rfl fun bl=>?_|refine A.step rfl ?_|refine A.v rfl rfl ?_)
      refine A.valE 66 rfl (x' := AB (!nxtB s (farF s fst) at1 (best - ((l0.length : Int) + 1)) d)) (ab_eq ?_) ?_
      · rw [hll, nxtB, hpr, w64_id (by unfold i64; omega), Bool.eq_iff_iff]
        simp only [Bool.true_and, Bool.not_eq_true', beq_eq_false_iff_ne, ne_eq, ← hwe]
        simp
      refine A.cond rfl (fun hc => ?_) (fun hc => ?_)
      · have hno : nxtB s (farF s fst) at1 (best - ((l0.length : Int) + 1)) d = false := by simpa using hc
        (repeat first|refine A.s rfl ?_|refine A.r rfl rfl ?_|refine A.w rfl rfl ?_|refine A.p rfl ?_|refine A.b rfl fun bx=>?_|refine A.t rfl fun bl=>?_|refine A.step rfl ?_|refine A.v rfl rfl ?_)
        refine A.valE 11 rfl (x' := AI ((d + 1 : Nat) : Int)) (inc_eq d (by omega)) ?_
        refine A.sub (by repeat (first | exact trivial | refine ⟨⟨_, rfl, .refl⟩, ?_⟩)) (dh (d + 1) ⟨by omega, fun d' h => ?_⟩ (by omega))
        by_cases hdd : d' = d
        · subst hdd; exact hno
        · exact hd.2 d' (by omega)
      · have hyes : nxtB s (farF s fst) at1 (best - ((l0.length : Int) + 1)) d = true := by simpa using hc
        rw [find_range hdm hyes hd.2] at h1
        simp only [nxtB, Bool.and_eq_true, beq_iff_eq] at hyes
        (repeat first|refine A.s rfl ?_|refine A.r rfl rfl ?_|refine A.w rfl rfl ?_|refine A.p rfl ?_|refine A.b rfl fun bx=>?_|refine A.t rfl fun bl=>?_)
        refine A.valE 72 rfl (x' := AB false) (ab_eq (by simp; omega)) ?_
        (repeat first|refine A.s rfl ?_|refine A.r rfl rfl ?_|refine A.w rfl rfl ?_|refine A.p rfl ?_|refine A.b rfl fun bx=>?_|refine A.t rfl fun bl=>?_)
        refine A.entsEq (Λ' := [.tail ty3.size z, .box _ _]) rfl ?_
        refine A.append rfl rfl rfl rfl rfl rfl rfl rfl rfl rfl rfl rfl rfl rfl (by show ((natsA (l0 ++ [at1])).length + 1) * 1 ≤ _; rw [List.length_map, List.length_append]; simp; omega) fun z' => ?_
        refine A.valE 76 rfl (x' := .sl 1 (natsA ((l0 ++ [at1]) ++ [d])) (some z')) (by rw [show natsA ((l0 ++ [at1]) ++ [d]) = natsA (l0 ++ [at1]) ++ [AI (d : Nat)] from List.map_append]; rfl) ?_
        (repeat first|refine A.s rfl ?_|refine A.r rfl rfl ?_|refine A.w rfl rfl ?_|refine A.p rfl ?_|refine A.b rfl fun bx=>?_|refine A.t rfl fun bl=>?_|refine A.step rfl ?_|refine A.v rfl rfl ?_)
        refine A.sub (by repeat (first | exact trivial | refine ⟨⟨_, rfl, .refl⟩, ?_⟩)) (ih2 (l0 ++ [at1], d, z', f') ⟨?_, hdm, by simp only [List.length_append, List.length_singleton]; omega, by simp only [List.length_append, List.length_singleton]; omega⟩ (by simp only; omega))
        rw [← h1]
        simp only [List.length_append, List.length_singleton]
        congr 1
        rw [List.append_assoc (l0 ++ [at1])]
        push_cast
        rfl
    · simp at hc
      have hdm : d = m := by omega
      have hno := hd.2 y0 (by have := hS at1 y0 hy0.1; omega)
      have hyes : nxtB s (farF s fst) at1 (best - ((l0.length : Int) + 1)) y0 = true := by
        simp only [nxtB, Bool.and_eq_true, beq_iff_eq]
        exact ⟨hy0.1, by rw [hy0.2]; omega⟩
      rw [hno] at hyes
      cases hyes
  · simp at hc
    have hcr : cycR s m (farF s fst) best f at1 ((l0.length : Int) + 1) = [] := by
      cases f with
      | zero => rfl
      | succ f => rw [cycR, if_neg (by omega)]
    rw [hcr, List.append_nil] at h1
    (repeat first|refine A.s rfl ?_|refine A.r rfl rfl ?_|refine A.w rfl rfl ?_|refine A.p rfl ?_|refine A.b rfl fun bx=>?_|refine A.t rfl fun bl=>?_|refine A.step rfl ?_|refine A.v rfl rfl ?_); refine A.ret2 (Λ' := []) rfl rfl rfl rfl (List.nil_sublist _) ⟨?_, rfl⟩
    rw [cycR1_some hm (by rw [hsd]; exact h1.symm)]
    show Sb (.tp [_, _]) (.tp [rowA _, AB true])
    rw [natsA_row]; exact .tp (.cons (.own .refl) .refl)
end Go.Proofs.Ytpilobbmijpnoaa
