/-
  Chapter 23: Cycle of the program.
-/
import Derived.Test.YtpilobbmijpnoaaQ23g

namespace Go.Proofs.Ytpilobbmijpnoaa
open Go Go.Tp
set_option linter.unusedVariables false
set_option linter.unusedSimpArgs false
set_option maxRecDepth 100000
set_option maxHeartbeats 4000000

def cycR1 (n : Int) (c : Procs) : List Int × Bool := if mayB n c = true then (match cycV (beforeF c) n.toNat with
  | some l => (l.map fun d : Nat => (d : Int), true)
  | none => ([], false)) else ([], false)
abbrev cycA (p : List Int × Bool) : AV := .tp [rowA p.1, AB p.2]
theorem cycR1_no {n : Int} {c : Procs} (h : mayB n c = false) : cycR1 n c = ([], false) := by rw [cycR1, h]; rfl
theorem cycR1_some {m : Nat} {c : Procs} (h : mayB m c = true) {l : List Nat} (hk : cycV (beforeF c) m = some l) : cycR1 m c = (l.map fun d : Nat => (d : Int), true) := by
  rw [cycR1, if_pos h, Int.toNat_natCast, hk]
theorem cycR1_none {m : Nat} {c : Procs} (h : mayB m c = true) (hk : cycV (beforeF c) m = none) : cycR1 m c = ([], false) := by
  rw [cycR1, if_pos h, Int.toNat_natCast, hk]
abbrev natsA (l : List Nat) : List AV := l.map fun d : Nat => AI (d : Int)
theorem natsA_row (l : List Nat) : rowA (l.map fun d : Nat => (d : Int)) = .sl 1 (natsA l) none := by
  show AV.sl 1 ((l.map _).map AI) none = _
  rw [List.map_map]; rfl
theorem far_le {s : Nat → W64} {to x : Nat} (ht : to < 64) (hx : x < 64) : 0 ≤ farF s to x ∧ farF s to x ≤ 66 := by
  rcases far_spec (s := s) ht hx with ⟨h, _⟩ | ⟨m, h, _, h2⟩ <;> omega
theorem best_le (s : Nat → W64) {m : Nat} (hm : m ≤ 64) : 0 ≤ (bestF s m).2 ∧ (bestF s m).2 ≤ 66 ∧ -1 ≤ (bestF s m).1 ∧ (bestF s m).1 < 64 := by
  rcases bestF_spec s m with ⟨h, _⟩ | ⟨f, h1, h2⟩
  · rw [h]; decide
  · have := far_le (s := s) (to := f) (x := f) (by have := h2.lt; omega) (by have := h2.lt; omega)
    rw [h2.eq] at this
    have := h2.lt
    omega
theorem last_at (l : List Nat) (x : Nat) : (l ++ [x])[l.length]? = some x := by simp
theorem cycle_p (n : Int) (c : Procs) (hs : ShortN c) (hz : sizeN c ≤ 1000) : Pure Try.prog gs0 9 [netA n c] (cycA (cycR1 n c)) := by
  have hmay := may_p n c hs
  cases hm : mayB n c with
  | false =>
    rw [hm] at hmay
    refine Pure.of (S := tt) (fn := Try.f9) (n := 87) tt_ok Try.func9 rfl rfl rfl rfl fun w0 h0 F hgs => ?_
    (repeat first|refine A.s rfl ?_|refine A.r rfl rfl ?_|refine A.w rfl rfl ?_|refine A.p rfl ?_|refine A.b rfl fun bx=>?_|refine A.t rfl fun bl=>?_|refine A.step rfl ?_|refine A.v rfl rfl ?_)
    refine A.c rfl hmay .refl ?_
    (repeat first|refine A.s rfl ?_|refine A.r rfl rfl ?_|refine A.w rfl rfl ?_|refine A.p rfl ?_|refine A.b rfl fun bx=>?_|refine A.t rfl fun bl=>?_|refine A.step rfl ?_|refine A.v rfl rfl ?_); refine A.ret2 (Λ' := []) rfl rfl rfl rfl (List.nil_sublist _) ⟨?_, rfl⟩; rw [cycR1_no hm]; exact .tp (.cons .nil (.cons .refl .nil))
  | true =>
  rw [hm] at hmay
  have hv := (mayB_iff hz).1 hm
  have hin := hv.inB
  have hn := mayG_n hv.g
  have hbef := before_p n c hs hin
  obtain ⟨m, rfl⟩ : ∃ m : Nat, n = m := ⟨n.toNat, by omega⟩
  have hm64 : m ≤ 64 := by omega
  have hlt := fun x d => before_lt hv x d
  generalize hsd : beforeF c = s at hbef hlt
  refine Pure.of (S := tt) (fn := Try.f9) (n := 87) tt_ok Try.func9 rfl rfl rfl rfl fun w0 h0 F hgs => ?_
  (repeat first|refine A.s rfl ?_|refine A.r rfl rfl ?_|refine A.w rfl rfl ?_|refine A.p rfl ?_|refine A.b rfl fun bx=>?_|refine A.t rfl fun bl=>?_|refine A.step rfl ?_|refine A.v rfl rfl ?_)
  refine A.c rfl hmay .refl ?_
  (repeat first|refine A.s rfl ?_|refine A.r rfl rfl ?_|refine A.w rfl rfl ?_|refine A.p rfl ?_|refine A.b rfl fun bx=>?_|refine A.t rfl fun bl=>?_|refine A.step rfl ?_|refine A.v rfl rfl ?_)
  refine A.c rfl hbef .refl ?_
  (repeat refine A.s rfl ?_)
  refine A.b rfl fun b1 => ?_
  refine A.headEq (.ag (setL fun _ => 0)) (by kernel_rfl) ?_
  refine A.wl rfl (set_one _) (arr_len _) (arr_len _) ?_
  (repeat first|refine A.s rfl ?_|refine A.r rfl rfl ?_|refine A.w rfl rfl ?_|refine A.p rfl ?_|refine A.b rfl fun bx=>?_|refine A.t rfl fun bl=>?_|refine A.step rfl ?_|refine A.v rfl rfl ?_)
  refine A.keep [1, 4, 5, 6, 19, 20] rfl ?_
  refine A.loopP (ι := Nat) (fun x => (⟨[(1, .v (.pointer (some ⟨_, 0, none⟩))), (4, .v (.pointer (some ⟨b1, 0, none⟩))), (5, AI (bestF s x).1), (6, AI (bestF s x).2), (19, AI (m : Nat)), (20, AI (x : Nat))], []⟩, [.box b1 (.ag (setL s)), .box _ (.ag [AI m, procsA c])]))
    (fun x => x ≤ m) (fun x => m - x) 0 (by omega) rfl fun x hx xh => ?_
  have hsu := bestF_succ s x
  rw [bestS] at hsu
  (repeat first|refine A.s rfl ?_|refine A.r rfl rfl ?_|refine A.w rfl rfl ?_|refine A.p rfl ?_|refine A.b rfl fun bx=>?_|refine A.t rfl fun bl=>?_)
  refine A.cond rfl (fun hc => ?_) (fun hc => ?_)
  · simp at hc
    have hxm : x < m := by omega
    have hx64 : x < 64 := by omega
    have hfl := far_le (s := s) hx64 hx64
    (repeat refine A.s rfl ?_)
    refine A.la rfl (arr_len _) rfl ?_
    (repeat refine A.s rfl ?_)
    refine A.c rfl (far_p s x hx64) .refl ?_
    (repeat refine A.s rfl ?_)
    refine A.ev (y := AI (farF s x x)) rfl (by omega) (by omega) (by show (intL (farF s x))[x * 1]? = _; rw [Nat.mul_one]; exact range_at _ hx64) rfl ?_
    (repeat first|refine A.s rfl ?_|refine A.r rfl rfl ?_|refine A.w rfl rfl ?_|refine A.p rfl ?_|refine A.b rfl fun bx=>?_|refine A.t rfl fun bl=>?_)
    refine A.valE 30 rfl (x' := AB (decide (0 < farF s x x))) rfl ?_
    ((fail_if_success (refine A.lit? rfl ?_)); refine A.gS rfl (fun hc => ?_) (fun hc => ?_))
    · simp at hc
      have h1 := hc
      (repeat first|refine A.s rfl ?_|refine A.r rfl rfl ?_|refine A.w rfl rfl ?_|refine A.p rfl ?_|refine A.b rfl fun bx=>?_|refine A.t rfl fun bl=>?_)
      refine A.valE 33 rfl (x' := AB (decide ((bestF s x).2 = 0))) (ab_eq (by rw [Bool.eq_iff_iff]; simp)) ?_
      ((fail_if_success (refine A.lit? rfl ?_)); refine A.gS rfl (fun hc => ?_) (fun hc => ?_))
      · simp at hc
        rw [if_pos ⟨h1, .inl hc⟩] at hsu
        (repeat first|refine A.s rfl ?_|refine A.r rfl rfl ?_|refine A.w rfl rfl ?_|refine A.p rfl ?_|refine A.b rfl fun bx=>?_|refine A.t rfl fun bl=>?_|refine A.step rfl ?_|refine A.v rfl rfl ?_)
        refine A.valE 20 rfl (x' := AI ((x + 1 : Nat) : Int)) (inc_eq x (by omega)) ?_
        refine A.valE 5 rfl (x' := AI (bestF s (x + 1)).1) (by rw [hsu]) ?_
        refine A.valE 6 rfl (x' := AI (bestF s (x + 1)).2) (by rw [hsu]) ?_
        refine A.sub (by repeat (first | exact trivial | refine ⟨⟨_, rfl, .refl⟩, ?_⟩)) (xh (x + 1) (by omega) (by omega))
      · simp at hc
        have h2 := hc
        (repeat first|refine A.s rfl ?_|refine A.r rfl rfl ?_|refine A.w rfl rfl ?_|refine A.p rfl ?_|refine A.b rfl fun bx=>?_|refine A.t rfl fun bl=>?_|refine A.step rfl ?_|refine A.v rfl rfl ?_)
        refine A.cond rfl (fun hc => ?_) (fun hc => ?_)
        · simp at hc
          rw [if_pos ⟨h1, .inr hc⟩] at hsu
          (repeat first|refine A.s rfl ?_|refine A.r rfl rfl ?_|refine A.w rfl rfl ?_|refine A.p rfl ?_|refine A.b rfl fun bx=>?_|refine A.t rfl fun bl=>?_|refine A.step rfl ?_|refine A.v rfl rfl ?_)
          refine A.valE 20 rfl (x' := AI ((x + 1 : Nat) : Int)) (inc_eq x (by omega)) ?_
          refine A.valE 5 rfl (x' := AI (bestF s (x + 1)).1) (by rw [hsu]) ?_
          refine A.valE 6 rfl (x' := AI (bestF s (x + 1)).2) (by rw [hsu]) ?_
          refine A.sub (by repeat (first | exact trivial | refine ⟨⟨_, rfl, .refl⟩, ?_⟩)) (xh (x + 1) (by omega) (by omega))
        · simp at hc
          rw [if_neg (fun h => by have := h.2; omega)] at hsu
          (repeat first|refine A.s rfl ?_|refine A.r rfl rfl ?_|refine A.w rfl rfl ?_|refine A.p rfl ?_|refine A.b rfl fun bx=>?_|refine A.t rfl fun bl=>?_|refine A.step rfl ?_|refine A.v rfl rfl ?_)
          refine A.valE 20 rfl (x' := AI ((x + 1 : Nat) : Int)) (inc_eq x (by omega)) ?_
          refine A.valE 5 rfl (x' := AI (bestF s (x + 1)).1) (by rw [hsu]) ?_
          refine A.valE 6 rfl (x' := AI (bestF s (x + 1)).2) (by rw [hsu]) ?_
          refine A.sub (by repeat (first | exact trivial | refine ⟨⟨_, rfl, .refl⟩, ?_⟩)) (xh (x + 1) (by omega) (by omega))
    · simp at hc
      rw [if_neg (fun h => by have := h.1; omega)] at hsu
      (repeat first|refine A.s rfl ?_|refine A.r rfl rfl ?_|refine A.w rfl rfl ?_|refine A.p rfl ?_|refine A.b rfl fun bx=>?_|refine A.t rfl fun bl=>?_|refine A.step rfl ?_|refine A.v rfl rfl ?_)
      refine A.valE 20 rfl (x' := AI ((x + 1 : Nat) : Int)) (inc_eq x (by omega)) ?_
      refine A.valE 5 rfl (x' := AI (bestF s (x + 1)).1) (by rw [hsu]) ?_
      refine A.valE 6 rfl (x' := AI (bestF s (x + 1)).2) (by rw [hsu]) ?_
      refine A.sub (by repeat (first | exact trivial | refine ⟨⟨_, rfl, .refl⟩, ?_⟩)) (xh (x + 1) (by omega) (by omega))
  simp at hc
  have hxl : x = m := by omega
  subst hxl
  have hbl := best_le s hm64
  (repeat first|refine A.s rfl ?_|refine A.r rfl rfl ?_|refine A.w rfl rfl ?_|refine A.p rfl ?_|refine A.b rfl fun bx=>?_|refine A.t rfl fun bl=>?_)
  refine A.cond rfl (fun hc => ?_) (fun hc => ?_)
  · simp at hc
    (repeat first|refine A.s rfl ?_|refine A.r rfl rfl ?_|refine A.w rfl rfl ?_|refine A.p rfl ?_|refine A.b rfl fun bx=>?_|refine A.t rfl fun bl=>?_|refine A.step rfl ?_|refine A.v rfl rfl ?_); refine A.ret2 (Λ' := []) rfl rfl rfl rfl (List.nil_sublist _) ⟨?_, rfl⟩
    rw [cycR1_none hm (by rw [hsd, cycV, if_pos hc])]
    exact .tp (.cons .nil (.cons .refl .nil))
  simp at hc
  have hcv : cycV s x = some ((bestF s x).1.toNat :: cycR s x (farF s (bestF s x).1.toNat) (bestF s x).2 66 (bestF s x).1.toNat 1) := by rw [cycV, if_neg (by omega)]
  refine Exists.elim (show ∃ a : Nat, (bestF s x).1 = a ∧ a < x from ?_) fun fst hf => ?_
  · rcases bestF_spec s x with ⟨h, _⟩ | ⟨f, h1, h2⟩
    · rw [h] at hc; simp at hc
    · exact ⟨f, h1, h2.lt⟩
  obtain ⟨hf1, hf2⟩ := hf
  rw [hf1, Int.toNat_natCast] at hcv
  refine A.valE 5 rfl (x' := AI (fst : Nat)) (ai_eq hf1) ?_
  have hf64 : fst < 64 := by omega
  (repeat refine A.s rfl ?_)
  refine A.la rfl (arr_len _) rfl ?_
  (repeat refine A.s rfl ?_)
  refine A.c rfl (far_p s fst hf64) .refl ?_
  (repeat refine A.s rfl ?_)
  refine A.b rfl fun b2 => ?_
  refine A.headEq (.ag (intL fun _ => 0)) (by kernel_rfl) ?_
  refine A.wl rfl (int_one _) (arr_len _) (arr_len _) ?_
  (repeat first|refine A.s rfl ?_|refine A.r rfl rfl ?_|refine A.w rfl rfl ?_|refine A.p rfl ?_|refine A.b rfl fun bx=>?_|refine A.t rfl fun bl=>?_|refine A.step rfl ?_|refine A.v rfl rfl ?_)
  refine A.fullTail 1 1 (some ⟨bl, 0, none⟩) (fun h => by cases h) (fun x hx => by injection hx with hx; subst hx; rfl) ?_
  refine A.keep [1, 4, 6, 9, 10] rfl ?_
  refine A.loopP (ι := List Nat × Nat × Value × Nat) (fun q => (⟨[(1, .v (.pointer (some ⟨_, 0, none⟩))), (4, .v (.pointer (some ⟨b1, 0, none⟩))), (6, AI (bestF s x).2), (9, .v (.pointer (some ⟨b2, 0, none⟩))), (10, .sl 1 (natsA (q.1 ++ [q.2.1])) (some q.2.2.1))], []⟩, [.tail 1 q.2.2.1, .box b2 (.ag (intL (farF s fst))), .box b1 (.ag (setL s)), .box _ (.ag [AI x, procsA c])]))
    (fun q => some ((q.1 ++ [q.2.1]) ++ cycR s x (farF s fst) (bestF s x).2 q.2.2.2 q.2.1 ((q.1.length : Int) + 1)) = cycV s x ∧ q.2.1 < x ∧ q.1.length + 1 + q.2.2.2 = 67) (fun q => q.2.2.2) ([], fst, _, 66) ⟨by rw [hcv]; rfl, hf2, rfl⟩ rfl fun q hi ih => ?_
  obtain ⟨l0, at1, z, f⟩ := q
  simp only at hi ih ⊢
  obtain ⟨h1, h2, h3⟩ := hi
  have hll : ((natsA (l0 ++ [at1])).length : Int) = ((l0.length + 1 : Nat) : Int) := by rw [List.length_map, List.length_append]; rfl
  have at64 : at1 < 64 := by omega
  have hat : (natsA (l0 ++ [at1]))[l0.length]? = some (AI (at1 : Nat)) := map_at (last_at l0 at1)
  (repeat first|refine A.s rfl ?_|refine A.r rfl rfl ?_|refine A.w rfl rfl ?_|refine A.p rfl ?_|refine A.b rfl fun bx=>?_|refine A.t rfl fun bl=>?_)
  refine A.valE 50 rfl (x' := AI ((l0.length + 1 : Nat) : Int)) (ai_eq hll) ?_
  (repeat first|refine A.s rfl ?_|refine A.r rfl rfl ?_|refine A.w rfl rfl ?_|refine A.p rfl ?_|refine A.b rfl fun bx=>?_|refine A.t rfl fun bl=>?_)
  refine A.cond rfl (fun hc => ?_) (fun hc => ?_)
  · simp at hc
    have hlb := hc
    obtain ⟨f', rfl⟩ : ∃ f', f = f' + 1 := ⟨f - 1, by omega⟩
    rw [cycR, if_pos (by omega)] at h1
    (repeat first|refine A.s rfl ?_|refine A.r rfl rfl ?_|refine A.w rfl rfl ?_|refine A.p rfl ?_|refine A.b rfl fun bx=>?_|refine A.t rfl fun bl=>?_)
    refine A.valE 56 rfl (x' := AI (l0.length : Nat)) (ai_eq (by rw [hll, w64_id (by unfold i64; omega)]; omega)) ?_
    refine A.x rfl (by omega) hat rfl rfl ?_
    (repeat first|refine A.s rfl ?_|refine A.r rfl rfl ?_|refine A.w rfl rfl ?_|refine A.p rfl ?_|refine A.b rfl fun bx=>?_|refine A.t rfl fun bl=>?_|refine A.step rfl ?_|refine A.v rfl rfl ?_)
    refine A.keep [1, 4, 6, 9, 10, 11, 60, 61] rfl ?_
    refine A.loopP (ι := Nat) (fun d => (⟨[(1, .v (.pointer (some ⟨_, 0, none⟩))), (4, .v (.pointer (some ⟨b1, 0, none⟩))), (6, AI (bestF s x).2), (9, .v (.pointer (some ⟨b2, 0, none⟩))), (10, .sl 1 (natsA (l0 ++ [at1])) (some z)), (11, AI (at1 : Nat)), (60, AI (x : Nat)), (61, AI (d : Nat))], []⟩, [.tail 1 z, .box b2 (.ag (intL (farF s fst))), .box b1 (.ag (setL s)), .box _ (.ag [AI x, procsA c])]))
      (fun d => d ≤ x ∧ ((List.range x).drop d).find? (nxtB s (farF s fst) at1 ((bestF s x).2 - ((l0.length : Int) + 1))) = (List.range x).find? (nxtB s (farF s fst) at1 ((bestF s x).2 - ((l0.length : Int) + 1)))) (fun d => x - d) 0 ⟨by omega, rfl⟩ rfl fun d hd dh => ?_
    obtain ⟨hd1, hd2⟩ := hd
    (repeat first|refine A.s rfl ?_|refine A.r rfl rfl ?_|refine A.w rfl rfl ?_|refine A.p rfl ?_|refine A.b rfl fun bx=>?_|refine A.t rfl fun bl=>?_)
    refine A.cond rfl (fun hc => ?_) (fun hc => ?_)
    · simp at hc
      have hdx : d < x := by omega
      have hd64 : d < 64 := by omega
      rw [range_drop hdx, List.find?_cons] at hd2
      (repeat first|refine A.s rfl ?_|refine A.r rfl rfl ?_|refine A.w rfl rfl ?_|refine A.p rfl ?_|refine A.b rfl fun bx=>?_|refine A.t rfl fun bl=>?_)
      refine A.xa rfl (p := at1) (by omega) (by omega) (off1 at1) rfl ?_
      refine A.ra rfl (range_at _ at64) rfl ?_
      (repeat first|refine A.s rfl ?_|refine A.r rfl rfl ?_|refine A.w rfl rfl ?_|refine A.p rfl ?_|refine A.b rfl fun bx=>?_|refine A.t rfl fun bl=>?_)
      refine A.shift rfl rfl rfl rfl rfl rfl (by omega) ?_
      refine A.valE 68 rfl (x' := U64 (s at1 >>> d)) (u64_eq (ushr _ _ hd64)) ?_
      (repeat first|refine A.s rfl ?_|refine A.r rfl rfl ?_|refine A.w rfl rfl ?_|refine A.p rfl ?_|refine A.b rfl fun bx=>?_|refine A.t rfl fun bl=>?_)
      refine A.valE 71 rfl (x' := AB ((s at1).getLsbD d)) (ab_eq (bit1 _ d)) ?_
      ((fail_if_success (refine A.lit? rfl ?_)); refine A.gS rfl (fun hc => ?_) (fun hc => ?_))
      · have hb := hc
        (repeat first|refine A.s rfl ?_|refine A.r rfl rfl ?_|refine A.w rfl rfl ?_|refine A.p rfl ?_|refine A.b rfl fun bx=>?_|refine A.t rfl fun bl=>?_)
        refine A.xa rfl (p := d) (by omega) (by omega) (off1 d) rfl ?_
        refine A.ra rfl (range_at _ hd64) rfl ?_
        (repeat first|refine A.s rfl ?_|refine A.r rfl rfl ?_|refine A.w rfl rfl ?_|refine A.p rfl ?_|refine A.b rfl fun bx=>?_|refine A.t rfl fun bl=>?_|refine A.step rfl ?_|refine A.v rfl rfl ?_)
        refine A.valE 80 rfl (x' := AB (nxtB s (farF s fst) at1 ((bestF s x).2 - ((l0.length : Int) + 1)) d)) (ab_eq (by rw [hll, nxtB, hb, w64_id (by unfold i64; omega)]; rfl)) ?_
        refine A.cond rfl (fun hc => ?_) (fun hc => ?_)
        · rw [hc] at hd2
          rw [← hd2] at h1
          (repeat first|refine A.s rfl ?_|refine A.r rfl rfl ?_|refine A.w rfl rfl ?_|refine A.p rfl ?_|refine A.b rfl fun bx=>?_|refine A.t rfl fun bl=>?_)
          refine A.entsEq (Λ' := [.tail ty3.size z, .box _ _, .box _ _, .box _ _]) rfl ?_
          refine A.append rfl rfl rfl rfl rfl rfl rfl rfl rfl rfl rfl rfl rfl rfl (by show ((natsA (l0 ++ [at1])).length + 1) * 1 ≤ _; rw [List.length_map, List.length_append]; simp; omega) fun z' => ?_
          refine A.valE 84 rfl (x' := .sl 1 (natsA ((l0 ++ [at1]) ++ [d])) (some z')) (by rw [show natsA ((l0 ++ [at1]) ++ [d]) = natsA (l0 ++ [at1]) ++ [AI (d : Nat)] from List.map_append]; rfl) ?_
          (repeat first|refine A.s rfl ?_|refine A.r rfl rfl ?_|refine A.w rfl rfl ?_|refine A.p rfl ?_|refine A.b rfl fun bx=>?_|refine A.t rfl fun bl=>?_|refine A.step rfl ?_|refine A.v rfl rfl ?_)
          refine A.sub (by repeat (first | exact trivial | refine ⟨⟨_, rfl, .refl⟩, ?_⟩)) (ih (l0 ++ [at1], d, z', f') ⟨?_, hdx, by simp only [List.length_append, List.length_singleton]; omega⟩ (by simp only; omega))
          rw [← h1]
          simp only [List.length_append, List.length_singleton]
          congr 1
          rw [List.append_assoc (l0 ++ [at1])]
          push_cast
          rfl
        · rw [hc] at hd2
          (repeat first|refine A.s rfl ?_|refine A.r rfl rfl ?_|refine A.w rfl rfl ?_|refine A.p rfl ?_|refine A.b rfl fun bx=>?_|refine A.t rfl fun bl=>?_|refine A.step rfl ?_|refine A.v rfl rfl ?_)
          refine A.valE 61 rfl (x' := AI ((d + 1 : Nat) : Int)) (inc_eq d (by omega)) ?_
          refine A.sub (by repeat (first | exact trivial | refine ⟨⟨_, rfl, .refl⟩, ?_⟩)) (dh (d + 1) ⟨by omega, hd2⟩ (by omega))
      · have hb : nxtB s (farF s fst) at1 ((bestF s x).2 - ((l0.length : Int) + 1)) d = false := by rw [nxtB, hc]; rfl
        rw [hb] at hd2
        (repeat first|refine A.s rfl ?_|refine A.r rfl rfl ?_|refine A.w rfl rfl ?_|refine A.p rfl ?_|refine A.b rfl fun bx=>?_|refine A.t rfl fun bl=>?_|refine A.step rfl ?_|refine A.v rfl rfl ?_)
        refine A.valE 61 rfl (x' := AI ((d + 1 : Nat) : Int)) (inc_eq d (by omega)) ?_
        refine A.sub (by repeat (first | exact trivial | refine ⟨⟨_, rfl, .refl⟩, ?_⟩)) (dh (d + 1) ⟨by omega, hd2⟩ (by omega))
    · simp at hc
      have hdx : d = x := by omega
      rw [hdx, range_end, List.find?_nil] at hd2
      rw [← hd2, List.append_nil] at h1
      (repeat first|refine A.s rfl ?_|refine A.r rfl rfl ?_|refine A.w rfl rfl ?_|refine A.p rfl ?_|refine A.b rfl fun bx=>?_|refine A.t rfl fun bl=>?_|refine A.step rfl ?_|refine A.v rfl rfl ?_); refine A.ret2 (Λ' := []) rfl rfl rfl rfl (List.nil_sublist _) ⟨?_, rfl⟩
      rw [cycR1_some hm (by rw [hsd]; exact h1.symm)]
      show Sb (.tp [_, _]) (.tp [rowA _, AB true])
      rw [natsA_row]; exact .tp (.cons (.own .refl) .refl)
  · simp at hc
    have hcr : cycR s x (farF s fst) (bestF s x).2 f at1 ((l0.length : Int) + 1) = [] := by
      cases f with
      | zero => rfl
      | succ f => rw [cycR, if_neg (by omega)]
    rw [hcr, List.append_nil] at h1
    (repeat first|refine A.s rfl ?_|refine A.r rfl rfl ?_|refine A.w rfl rfl ?_|refine A.p rfl ?_|refine A.b rfl fun bx=>?_|refine A.t rfl fun bl=>?_|refine A.step rfl ?_|refine A.v rfl rfl ?_); refine A.ret2 (Λ' := []) rfl rfl rfl rfl (List.nil_sublist _) ⟨?_, rfl⟩
    rw [cycR1_some hm (by rw [hsd]; exact h1.symm)]
    show Sb (.tp [_, _]) (.tp [rowA _, AB true])
    rw [natsA_row]; exact .tp (.cons (.own .refl) .refl)
end Go.Proofs.Ytpilobbmijpnoaa
