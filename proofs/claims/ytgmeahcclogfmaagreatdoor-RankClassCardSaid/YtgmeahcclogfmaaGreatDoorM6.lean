/-
  Texts R23b R23c R23d R23e Q23a Q23b Q23c Q23d Q23e R23f, in one. Conditions: as each theorem says.
-/
import Derived.Test.YtgmeahcclogfmaaGreatDoorM4
import Derived.Test.YtgmeahcclogfmaaGreatDoorM5
import Derived.Test.YtgmeahcclogfmaaGreatDoorM1
import Derived.Test.YtgmeahcclogfmaaGreatDoorLf
import Derived.Test.YtgmeahcclogfmaaGreatDoorM3
import Derived.Test.YtgmeahcclogfmaaGreatDoorLh
/-!
  Chapter 23: the last process of a sequence that clears, by the reference; inputs and outputs of a step.
-/
namespace Go.Proofs.YtgmeahcclogfmaaGreatDoor
open Go Go.Tp
set_option linter.unusedVariables false
set_option linter.unusedSimpArgs false
set_option maxRecDepth 100000
set_option maxHeartbeats 4000000
theorem rlast_a (p : PR) (kind : Int) (h : ¬ (p.kind = 9 ∧ 0 < p.l.length)) : Pure Tryz.prog gs0 17 [cellsR p, AU8 kind] (.tp [cellsR p, AB (p.kind == kind)]) := by
  have n1 : ((encRl p.l).length : Int) = p.l.length := by rw [encRl_len]
  by_cases h9 : p.kind = 9
  case neg =>
    have h9b : (p.kind == 9) = false := beq_eq_false_iff_ne.2 h9
    refine Pure.of (S := tt) (fn := Tryz.f17) (n := 45) tt_ok Tryz.func17 rfl rfl rfl rfl fun w0 h0 F hgs => ?_
    (repeat first|refine A.s rfl ?_|refine A.r rfl rfl ?_|refine A.b rfl fun bx=>?_)
    refine A.valE 10 rfl (x' := AB false) (ab_eq h9b) ?_
    (repeat refine A.s rfl ?_)
    refine A.drawO 4 5 6 [0, 1, 2, 3, 4, 5] (fun i => if i = 5 then [5] else []) [] rfl (by decide) rfl (by kernel_rfl) ?_
    (repeat first|refine WA.s rfl ?_|refine WA.r rfl rfl ?_)
    refine WA.store rfl rfl rfl rfl rfl rfl rfl rfl rfl rfl ?_
    refine WA.nil (l := [_]) rfl ?_
    (repeat refine A.s rfl ?_)
    refine A.retN (Λ' := []) rfl rfl (ResA.cell rfl rfl rfl (ResA.tmp rfl ResA.nil)) (List.nil_sublist _) ⟨?_, rfl⟩
    exact .refl
  have h9b : (p.kind == 9) = true := beq_iff_eq.2 h9
  refine Pure.of (S := tt) (fn := Tryz.f17) (n := 45) tt_ok Tryz.func17 rfl rfl rfl rfl fun w0 h0 F hgs => ?_
  (repeat first|refine A.s rfl ?_|refine A.r rfl rfl ?_|refine A.b rfl fun bx=>?_)
  refine A.valE 10 rfl (x' := AB true) (ab_eq h9b) ?_
  (repeat first|refine A.s rfl ?_|refine A.r rfl rfl ?_)
  refine A.valE 15 rfl (x' := AB false) (ab_eq (by rw [n1]; exact decide_eq_false (by omega))) ?_
  (repeat refine A.s rfl ?_)
  refine A.drawO 4 5 6 [0, 1, 2, 3, 4, 5] (fun i => if i = 5 then [5] else []) [] rfl (by decide) rfl (by kernel_rfl) ?_
  (repeat first|refine WA.s rfl ?_|refine WA.r rfl rfl ?_)
  refine WA.store rfl rfl rfl rfl rfl rfl rfl rfl rfl rfl ?_
  refine WA.nil (l := [_]) rfl ?_
  (repeat refine A.s rfl ?_)
  refine A.retN (Λ' := []) rfl rfl (ResA.cell rfl rfl rfl (ResA.tmp rfl ResA.nil)) (List.nil_sublist _) ⟨?_, rfl⟩
  exact .refl
theorem rlast_p (p : PR) (kind : Int) (hk : kind ≠ 9) (hl : p.l.length ≤ 281474976710656) : Pure Tryz.prog gs0 17 [cellsR p, AU8 kind] (.tp [cellsR (lastR p), AB ((lastR p).kind == kind)]) := by
  have n1 : ((encRl p.l).length : Int) = p.l.length := by rw [encRl_len]
  by_cases h90 : p.kind = 9 ∧ 0 < p.l.length
  case neg =>
    have hcb : clearB p = false := by
      rw [clearB, Bool.and_eq_false_iff]
      by_cases h9 : p.kind = 9
      · exact .inr (by rw [decide_eq_false (by omega)]; rfl)
      · exact .inl (beq_eq_false_iff_ne.2 h9)
    rw [lastR_no hcb]; exact rlast_a p kind h90
  obtain ⟨h9, h0⟩ := h90
  have h9b : (p.kind == 9) = true := beq_iff_eq.2 h9
  have hkk : (p.kind == kind) = false := beq_eq_false_iff_ne.2 (by omega)
  have hwr : IntKind.i64.wrap ((p.l.length : Int) - 1) = ((p.l.length - 1 : Nat) : Int) := by rw [wr64 _ (by omega)]; omega
  have hcb : clearB p = !(p.l.take (p.l.length - 1)).any unclear := by rw [clearB, h9b, decide_eq_true h0]; rfl
  refine Exists.elim (show ∃ R, R = AV.tp [cellsR (lastR p), AB ((lastR p).kind == kind)] from ⟨_, rfl⟩) fun R hR => ?_
  rw [← hR]
  refine Pure.of (S := tt) (fn := Tryz.f17) (n := 45) tt_ok Tryz.func17 rfl rfl rfl rfl fun w0 h0 F hgs => ?_
  (repeat first|refine A.s rfl ?_|refine A.r rfl rfl ?_|refine A.b rfl fun bx=>?_)
  refine A.valE 10 rfl (x' := AB true) (ab_eq h9b) ?_
  (repeat first|refine A.s rfl ?_|refine A.r rfl rfl ?_)
  refine A.valE 15 rfl (x' := AB true) (ab_eq (by rw [n1]; exact decide_eq_true (by omega))) ?_
  (repeat refine A.s rfl ?_)
  refine A.keep [1, 2, 4, 5, 6] rfl ?_
  refine A.loopP (ι := Nat) (fun i => (⟨[(1, AU8 kind), (2, ptrA _), (4, ptrA _), (5, AB false), (6, AI (i : Nat))], []⟩, [.box _ _, .box _ (cellsR p)])) (fun i => i ≤ p.l.length - 1 ∧ (p.l.take i).any unclear = false) (fun i => p.l.length - i) 0 ⟨by omega, rfl⟩ rfl fun i hi ih => ?_
  (repeat first|refine A.s rfl ?_|refine A.r rfl rfl ?_)
  refine A.valE 21 rfl (x' := AB (decide (i + 1 < p.l.length))) (ab_eq (by rw [n1, wr64 ((i : Int) + 1) (by omega), Bool.eq_iff_iff]; simp; omega)) ?_
  refine A.cond rfl (fun hc => ?_) (fun hc => ?_)
  · have hc : i + 1 < p.l.length := by simpa using hc
    refine Exists.elim (at_exN (l := p.l) (i := i) (by omega)) fun x hx => ?_
    have htk : p.l.take (i + 1) = p.l.take i ++ [x] := by rw [List.take_add_one, hx]; rfl
    (repeat first|refine A.s rfl ?_|refine A.r rfl rfl ?_)
    refine A.x rfl (by show (0 : Int) ≤ (i : Nat); omega) (encRl_at hx) (encR_eq x) rfl ?_
    (repeat refine A.s rfl ?_)
    refine A.valE 30 rfl (x' := AB (unclear x)) (ab_eq rfl) ?_
    refine A.cond rfl (fun hc => ?_) (fun hc => ?_)
    · have hu : unclear x = true := hc
      have hno : clearB p = false := by
        rw [hcb, Bool.not_eq_false']
        exact List.any_eq_true.2 ⟨x, List.mem_of_getElem? (i := i) (by rw [List.getElem?_take, if_pos (by omega)]; exact hx), hu⟩
      rw [lastR_no hno, hkk] at hR
      subst hR
      (repeat first|refine A.s rfl ?_|refine A.r rfl rfl ?_|refine A.w rfl rfl ?_)
      refine A.retN (Λ' := []) rfl rfl (ResA.cell rfl rfl rfl (ResA.tmp rfl ResA.nil)) (List.nil_sublist _) ⟨?_, rfl⟩
      exact .refl
    · have hu : unclear x = false := hc
      (repeat refine A.s rfl ?_)
      refine A.valE 6 rfl (x' := AI ((i + 1 : Nat) : Int)) (inc_eq i (by omega)) ?_
      refine A.sub (by repeat (first | exact trivial | refine ⟨⟨_, rfl, .refl⟩, ?_⟩)) (ih (i + 1) ⟨by omega, by rw [htk, List.any_append, hi.2]; simp [hu]⟩ (by omega))
  have hc : ¬ i + 1 < p.l.length := by simpa using hc
  have hil : i = p.l.length - 1 := by omega
  have h2 := hi.2
  rw [hil] at h2
  rw [h2] at hcb
  refine Exists.elim (lastp_at hcb) fun y hy => ?_
  rw [lastR_yes hcb hy] at hR
  subst hR
  (repeat first|refine A.s rfl ?_|refine A.r rfl rfl ?_)
  refine A.valE 37 rfl (x' := AI ((p.l.length - 1 : Nat) : Int)) (ai_eq (by rw [n1]; exact hwr)) ?_
  refine A.x rfl (by omega) (encRl_at hy) (encR_eq y) rfl ?_
  (repeat first|refine A.s rfl ?_|refine A.w rfl rfl ?_)
  refine A.drawO 4 5 6 [0, 1, 2, 3, 4, 5] (fun i => if i = 5 then [5] else []) [] rfl (by decide) rfl (by kernel_rfl) ?_
  (repeat first|refine WA.s rfl ?_|refine WA.r rfl rfl ?_)
  refine WA.store rfl rfl rfl rfl rfl rfl rfl rfl rfl rfl ?_
  refine WA.nil (l := [_]) rfl ?_
  (repeat refine A.s rfl ?_)
  refine A.retN (Λ' := []) rfl rfl (ResA.cell rfl rfl rfl (ResA.tmp rfl ResA.nil)) (List.nil_sublist _) ⟨?_, rfl⟩
  exact .refl
end Go.Proofs.YtgmeahcclogfmaaGreatDoor
/-!
  Chapter 23: inputs and outputs of a step; whether one is safe.
-/
namespace Go.Proofs.YtgmeahcclogfmaaGreatDoor
open Go Go.Tp
set_option linter.unusedVariables false
set_option linter.unusedSimpArgs false
set_option maxRecDepth 100000
set_option maxHeartbeats 4000000
/-! ### what a right process of some kinds has -/
theorem inB_one {m : Nat} (h : inB m 1 1 = true) : m = 1 := by simp only [inB, Bool.and_eq_true, decide_eq_true_eq] at h; omega
theorem kind_6 {l : List KV} {n : Nat} {p : PR} (h : kindB l n p = true) (k : p.kind = 6) : ∃ x, p.e = [x] ∧ chanB n p.c p.item 0 = true := by
  obtain ⟨kd, c, v, it, to, e, gs, b⟩ := p
  simp only [PR.kind] at k
  subst k
  have hs : kindB l n ⟨6, c, v, it, to, e, gs, b⟩ = (shapeR ⟨6, c, v, it, to, e, gs, b⟩ true false 0 0 1 1 0 0 0 0 && chanB n c it 0 && fit1 l e it) := rfl
  rw [hs] at h
  simp only [shapeR, Bool.and_eq_true] at h
  obtain ⟨x, hx⟩ := one_of (inB_one h.1.1.1.1.2)
  exact ⟨x, hx, h.1.2⟩
theorem kind_5 {l : List KV} {n : Nat} {p : PR} (h : kindB l n p = true) (k : p.kind = 5) : ∃ t, p.to = [t] ∧ inputB l n p.c p.item t = true := by
  obtain ⟨kd, c, v, it, to, e, gs, b⟩ := p
  simp only [PR.kind] at k
  subst k
  have hs : kindB l n ⟨5, c, v, it, to, e, gs, b⟩ = (shapeR ⟨5, c, v, it, to, e, gs, b⟩ true false 1 1 0 0 0 0 0 0 && to1 (inputB l n c it) to) := rfl
  rw [hs] at h
  simp only [shapeR, Bool.and_eq_true] at h
  obtain ⟨x, hx⟩ := one_of (inB_one h.1.1.1.1.2)
  refine ⟨x, hx, ?_⟩
  have h2 := h.2
  simp only [PR.to] at hx
  rw [hx] at h2
  exact h2
theorem kind_13 {l : List KV} {n : Nat} {p : PR} (h : kindB l n p = true) (k : p.kind = 13) : ∃ x y, p.e = [x] ∧ p.l = [y] := by
  obtain ⟨kd, c, v, it, to, e, gs, b⟩ := p
  simp only [PR.kind] at k
  subst k
  have hs : kindB l n ⟨13, c, v, it, to, e, gs, b⟩ = (shapeR ⟨13, c, v, it, to, e, gs, b⟩ false false 0 0 1 1 0 0 1 1 && fit1 l e 3) := rfl
  rw [hs] at h
  simp only [shapeR, Bool.and_eq_true] at h
  obtain ⟨x, hx⟩ := one_of (inB_one h.1.1.1.2)
  obtain ⟨y, hy⟩ := one_of (inB_one h.1.2)
  exact ⟨x, y, hx, hy⟩
theorem place_at {l : List KV} {p : PL} {k : Int} (h : placeB l p k = true) : 0 ≤ p.v ∧ ∃ y, l[p.v.toNat]? = some y := by
  unfold placeB at h
  split at h
  · cases h
  · rename_i hn
    exact ⟨by omega, at_exN (by omega)⟩
theorem input_place {l : List KV} {n : Nat} {c it : Int} {t : PL} (h : inputB l n c it t = true) : chanB n c it 1 = true ∧ placeB l t it = true := by rw [inputB, Bool.and_eq_true] at h; exact h
theorem chan_lt {n : Nat} {c it no : Int} (h : chanB n c it no = true) : 0 ≤ c ∧ c < n := by simp only [chanB, Bool.and_eq_true, decide_eq_true_eq] at h; omega
/-! ### the inputs and outputs of a step -/
def badQ (q : PR) : Bool := (q.kind != 5 && q.kind != 6) || decide (q.c < 2)
def stepL (p : PR) : List PR := if p.kind = 10 then p.l else [p]
def singleP (p : PR) : List PR := if (stepL p).any badQ = true then [] else stepL p
theorem encRl_one (p : PR) : encRl [p] = [cellsR p] := by rw [encRl, encRl, encR_eq]
theorem stepL_len (p : PR) (h : p.l.length ≤ 281474976710656) : (stepL p).length ≤ 281474976710656 := by
  unfold stepL; split
  · exact h
  · show 1 ≤ _; omega
theorem badq_p (q : PR) : Pure Tryz.prog gs0 43 [cellsR q] (AB (badQ q)) := by
  refine Pure.of (S := tt) (fn := Tryz.f43) (n := 16) tt_ok Tryz.func43 rfl rfl rfl rfl fun w0 h0 F hgs => ?_
  (repeat' first|first|refine A.s rfl ?_|refine A.r rfl rfl ?_|refine A.w rfl rfl ?_|refine A.p rfl ?_|refine A.b rfl fun bx=>?_|refine A.t rfl fun bl=>?_|((fail_if_success (refine A.lit? rfl ?_)); refine A.gS rfl (fun hc => ?_) (fun hc => ?_))|((fail_if_success (refine A.litP? rfl ?_)); refine A.gSP rfl (fun hc => ?_) (fun hc => ?_)))
  all_goals (refine A.ret1 (Λ' := []) rfl rfl rfl (List.nil_sublist _) ⟨?_, rfl⟩; refine Sb.eq (ab_eq ?_))
  all_goals (unfold badQ; first | (simp_all; done) | rfl | skip)
theorem single_p (p : PR) (hl : p.l.length ≤ 281474976710656) : Pure Tryz.prog gs0 30 [cellsR p] (rsA (singleP p)) := by
  have hcf := hasR_p 43 [] badQ (stepL p) (fun g _ => badq_p g) (stepL_len p hl)
  by_cases h10 : p.kind = 10
  · have hb : (p.kind == 10) = true := beq_iff_eq.2 h10
    rw [singleP, show stepL p = p.l from if_pos h10] at *
    cases hany : p.l.any badQ with
    | true =>
      rw [hany] at hcf
      rw [if_pos rfl]
      refine Pure.of (S := tt) (fn := Tryz.f30) (n := 14) tt_ok Tryz.func30 rfl rfl rfl rfl fun w0 h0 F hgs => ?_
      (repeat first|refine A.s rfl ?_|refine A.r rfl rfl ?_|refine A.b rfl fun bx=>?_|refine A.t rfl fun bl=>?_)
      refine A.valE 8 rfl (x' := AB true) (ab_eq hb) ?_
      (repeat first|refine A.s rfl ?_|refine A.r rfl rfl ?_)
      refine A.c rfl hcf .refl ?_
      (repeat refine A.s rfl ?_); refine A.ret1 (Λ' := []) rfl rfl rfl (List.nil_sublist _) ⟨?_, rfl⟩; exact .nil
    | false =>
      rw [hany] at hcf
      rw [if_neg (by simp)]
      refine Pure.of (S := tt) (fn := Tryz.f30) (n := 14) tt_ok Tryz.func30 rfl rfl rfl rfl fun w0 h0 F hgs => ?_
      (repeat first|refine A.s rfl ?_|refine A.r rfl rfl ?_|refine A.b rfl fun bx=>?_|refine A.t rfl fun bl=>?_)
      refine A.valE 8 rfl (x' := AB true) (ab_eq hb) ?_
      (repeat first|refine A.s rfl ?_|refine A.r rfl rfl ?_)
      refine A.c rfl hcf .refl ?_
      (repeat refine A.s rfl ?_); refine A.ret1 (Λ' := []) rfl rfl rfl (List.nil_sublist _) ⟨?_, rfl⟩; exact .refl
  · have hb : (p.kind == 10) = false := beq_eq_false_iff_ne.2 h10
    rw [singleP, show stepL p = [p] from if_neg h10] at *
    rw [rsA, encRl_one] at hcf
    cases hany : [p].any badQ with
    | true =>
      rw [hany] at hcf
      rw [if_pos rfl]
      refine Pure.of (S := tt) (fn := Tryz.f30) (n := 14) tt_ok Tryz.func30 rfl rfl rfl rfl fun w0 h0 F hgs => ?_
      (repeat first|refine A.s rfl ?_|refine A.r rfl rfl ?_|refine A.b rfl fun bx=>?_|refine A.t rfl fun bl=>?_)
      refine A.valE 8 rfl (x' := AB false) (ab_eq hb) ?_
      (repeat refine A.s rfl ?_)
      refine A.c rfl hcf (by repeat (first | exact Sb.refl | exact SbL.refl | refine SbL.cons ?_ ?_ | exact Sb.nil | exact Sb.own1 | refine Sb.own ?_ | refine Sb.ag ?_ | refine Sb.tp ?_)) ?_
      (repeat refine A.s rfl ?_); refine A.ret1 (Λ' := []) rfl rfl rfl (List.nil_sublist _) ⟨?_, rfl⟩; exact .nil
    | false =>
      rw [hany] at hcf
      rw [if_neg (by simp), rsA, encRl_one]
      refine Pure.of (S := tt) (fn := Tryz.f30) (n := 14) tt_ok Tryz.func30 rfl rfl rfl rfl fun w0 h0 F hgs => ?_
      (repeat first|refine A.s rfl ?_|refine A.r rfl rfl ?_|refine A.b rfl fun bx=>?_|refine A.t rfl fun bl=>?_)
      refine A.valE 8 rfl (x' := AB false) (ab_eq hb) ?_
      (repeat refine A.s rfl ?_)
      refine A.c rfl hcf (by repeat (first | exact Sb.refl | exact SbL.refl | refine SbL.cons ?_ ?_ | exact Sb.nil | exact Sb.own1 | refine Sb.own ?_ | refine Sb.ag ?_ | refine Sb.tp ?_)) ?_
      (repeat refine A.s rfl ?_); refine A.ret1 (Λ' := []) rfl rfl rfl (List.nil_sublist _) ⟨?_, rfl⟩; exact .own .refl
theorem rsingle_p (p : PR) (hl : p.l.length ≤ 281474976710656) : Pure Tryz.prog gs0 19 [cellsR p] (.tp [rsA (singleP p), AB (decide (0 < (singleP p).length))]) := by
  refine Exists.elim (show ∃ R, R = AV.tp [rsA (singleP p), AB (decide (0 < (singleP p).length))] from ⟨_, rfl⟩) fun R hR => ?_
  rw [← hR]
  by_cases h10 : p.kind = 10
  · have hb : (p.kind != 10) = false := by simpa using h10
    rw [singleP, show stepL p = p.l from if_pos h10] at hR
    refine Exists.elim (show ∃ L, L = p.l from ⟨_, rfl⟩) fun L hL => ?_
    rw [← hL] at hR hl
    refine Pure.of (S := tt) (fn := Tryz.f19) (n := 45) tt_ok Tryz.func19 rfl rfl rfl rfl fun w0 h0 F hgs => ?_
    (repeat first|refine A.s rfl ?_|refine A.r rfl rfl ?_|refine A.b rfl fun bx=>?_)
    refine A.valE 10 rfl (x' := AB false) (ab_eq hb) ?_
    (repeat refine A.s rfl ?_)
    refine A.valE 4 rfl (x' := rsA L) (by rw [hL]) ?_
    refine A.keep [2, 3, 4, 5] rfl ?_
    refine A.loopP (ι := Nat) (fun i => (⟨[(2, .v (.slice none 0 0)), (3, AB false), (4, rsA L), (5, AI (i : Nat))], []⟩, [.box _ (cellsR p)])) (fun i => i ≤ L.length ∧ (L.take i).any badQ = false) (fun i => L.length - i) 0 ⟨by omega, rfl⟩ rfl fun i hi ih => ?_
    (repeat refine A.s rfl ?_)
    refine A.valE 16 rfl (x' := AB (decide (i < L.length))) (ab_eq (by rw [encRl_len, Bool.eq_iff_iff]; simp)) ?_
    refine A.cond rfl (fun hc => ?_) (fun hc => ?_)
    · have hc : i < L.length := by simpa using hc
      refine Exists.elim (at_exN (l := L) (i := i) hc) fun x hx => ?_
      have htk : L.take (i + 1) = L.take i ++ [x] := by rw [List.take_add_one, hx]; rfl
      have hxi : ∀ b, badQ x = b → L.any badQ = true ∨ b = false := fun b hb => by
        cases b with
        | false => exact .inr rfl
        | true => exact .inl (List.any_eq_true.2 ⟨x, List.mem_of_getElem? hx, hb⟩)
      (repeat refine A.s rfl ?_)
      refine A.x rfl (by show (0 : Int) ≤ (i : Nat); omega) (encRl_at hx) (encR_eq x) rfl ?_
      (repeat' first|first|refine A.s rfl ?_|refine A.r rfl rfl ?_|refine A.w rfl rfl ?_|refine A.p rfl ?_|refine A.b rfl fun bx=>?_|refine A.t rfl fun bl=>?_|refine A.x rfl (by show (0 : Int) ≤ (i : Nat); omega) (encRl_at hx) (encR_eq x) rfl ?_|((fail_if_success (refine A.lit? rfl ?_)); refine A.gS rfl (fun hc => ?_) (fun hc => ?_))|((fail_if_success (refine A.litP? rfl ?_)); refine A.gSP rfl (fun hc => ?_) (fun hc => ?_)))
      all_goals first
        | (have hbt : badQ x = true := by (unfold badQ; simp_all); done)
        | skip
      all_goals first
        | (have hbt : badQ x = true := by (unfold badQ; simp_all)
           have hall : L.any badQ = true := List.any_eq_true.2 ⟨x, List.mem_of_getElem? hx, hbt⟩
           rw [hall] at hR
           rw [if_pos rfl] at hR
           subst hR
           refine A.ret2 (Λ' := []) rfl rfl rfl rfl (List.nil_sublist _) ⟨?_, rfl⟩; exact .tp (.cons .nil (.cons .refl .nil)))
        | (have hbf : badQ x = false := by (unfold badQ; simp_all)
           refine A.valE 5 rfl (x' := AI ((i + 1 : Nat) : Int)) (inc_eq i (by omega)) ?_
           refine A.sub (by repeat (first | exact trivial | refine ⟨⟨_, rfl, .refl⟩, ?_⟩)) (ih (i + 1) ⟨by omega, by rw [htk, List.any_append, hi.2]; simp [hbf]⟩ (by omega)))
    have hc : ¬ i < L.length := by simpa using hc
    have hil : i = L.length := by omega
    have h2 := hi.2
    rw [hil, List.take_length] at h2
    rw [h2, if_neg (by simp)] at hR
    subst hR
    (repeat refine A.s rfl ?_)
    refine A.ret2 (Λ' := []) rfl rfl rfl rfl (List.nil_sublist _) ⟨?_, rfl⟩
    refine .tp (.cons .refl (.cons (Sb.eq (ab_eq ?_)) .nil))
    rw [encRl_len]; simp
  · have hb : (p.kind != 10) = true := by simpa using h10
    rw [singleP, show stepL p = [p] from if_neg h10] at hR
    refine Exists.elim (show ∃ L, L = [p] from ⟨_, rfl⟩) fun L hL => ?_
    rw [← hL] at hR
    have hl : L.length ≤ 281474976710656 := by rw [hL]; show 1 ≤ _; omega
    refine Pure.of (S := tt) (fn := Tryz.f19) (n := 45) tt_ok Tryz.func19 rfl rfl rfl rfl fun w0 h0 F hgs => ?_
    (repeat first|refine A.s rfl ?_|refine A.r rfl rfl ?_|refine A.b rfl fun bx=>?_)
    refine A.valE 10 rfl (x' := AB true) (ab_eq hb) ?_
    (repeat first|refine A.s rfl ?_|refine A.r rfl rfl ?_|refine A.t rfl fun bl=>?_)
    refine A.val 4 rfl (x' := rsA L) (by rw [hL, show rsA [p] = .sl 8 [cellsR p] none by rw [rsA, encRl_one]]; exact .own .refl) ?_
    refine A.keep [2, 3, 4, 5] rfl ?_
    refine A.loopP (ι := Nat) (fun i => (⟨[(2, .v (.slice none 0 0)), (3, AB false), (4, rsA L), (5, AI (i : Nat))], []⟩, [.box _ (cellsR p)])) (fun i => i ≤ L.length ∧ (L.take i).any badQ = false) (fun i => L.length - i) 0 ⟨by omega, rfl⟩ rfl fun i hi ih => ?_
    (repeat refine A.s rfl ?_)
    refine A.valE 16 rfl (x' := AB (decide (i < L.length))) (ab_eq (by rw [encRl_len, Bool.eq_iff_iff]; simp)) ?_
    refine A.cond rfl (fun hc => ?_) (fun hc => ?_)
    · have hc : i < L.length := by simpa using hc
      refine Exists.elim (at_exN (l := L) (i := i) hc) fun x hx => ?_
      have htk : L.take (i + 1) = L.take i ++ [x] := by rw [List.take_add_one, hx]; rfl
      have hxi : ∀ b, badQ x = b → L.any badQ = true ∨ b = false := fun b hb => by
        cases b with
        | false => exact .inr rfl
        | true => exact .inl (List.any_eq_true.2 ⟨x, List.mem_of_getElem? hx, hb⟩)
      (repeat refine A.s rfl ?_)
      refine A.x rfl (by show (0 : Int) ≤ (i : Nat); omega) (encRl_at hx) (encR_eq x) rfl ?_
      (repeat' first|first|refine A.s rfl ?_|refine A.r rfl rfl ?_|refine A.w rfl rfl ?_|refine A.p rfl ?_|refine A.b rfl fun bx=>?_|refine A.t rfl fun bl=>?_|refine A.x rfl (by show (0 : Int) ≤ (i : Nat); omega) (encRl_at hx) (encR_eq x) rfl ?_|((fail_if_success (refine A.lit? rfl ?_)); refine A.gS rfl (fun hc => ?_) (fun hc => ?_))|((fail_if_success (refine A.litP? rfl ?_)); refine A.gSP rfl (fun hc => ?_) (fun hc => ?_)))
      all_goals first
        | (have hbt : badQ x = true := by (unfold badQ; simp_all); done)
        | skip
      all_goals first
        | (have hbt : badQ x = true := by (unfold badQ; simp_all)
           have hall : L.any badQ = true := List.any_eq_true.2 ⟨x, List.mem_of_getElem? hx, hbt⟩
           rw [hall] at hR
           rw [if_pos rfl] at hR
           subst hR
           refine A.ret2 (Λ' := []) rfl rfl rfl rfl (List.nil_sublist _) ⟨?_, rfl⟩; exact .tp (.cons .nil (.cons .refl .nil)))
        | (have hbf : badQ x = false := by (unfold badQ; simp_all)
           refine A.valE 5 rfl (x' := AI ((i + 1 : Nat) : Int)) (inc_eq i (by omega)) ?_
           refine A.sub (by repeat (first | exact trivial | refine ⟨⟨_, rfl, .refl⟩, ?_⟩)) (ih (i + 1) ⟨by omega, by rw [htk, List.any_append, hi.2]; simp [hbf]⟩ (by omega)))
    have hc : ¬ i < L.length := by simpa using hc
    have hil : i = L.length := by omega
    have h2 := hi.2
    rw [hil, List.take_length] at h2
    rw [h2, if_neg (by simp)] at hR
    subst hR
    (repeat refine A.s rfl ?_)
    refine A.ret2 (Λ' := []) rfl rfl rfl rfl (List.nil_sublist _) ⟨?_, rfl⟩
    refine .tp (.cons .refl (.cons (Sb.eq (ab_eq ?_)) .nil))
    rw [encRl_len]; simp
end Go.Proofs.YtgmeahcclogfmaaGreatDoor
/-!
  Chapter 23: whether an input or an output is safe.
-/
namespace Go.Proofs.YtgmeahcclogfmaaGreatDoor
open Go Go.Tp
set_option linter.unusedVariables false
set_option linter.unusedSimpArgs false
set_option maxRecDepth 100000
set_option maxHeartbeats 4000000
def safeT (l : List KV) (t : PL) : Bool := match t.ix with
  | [] => true
  | e :: _ => e.kind == 1 && decide (0 ≤ e.n) && (match l[t.v.toNat]? with
    | some y => decide (e.n < y.dim)
    | none => false)
def safeB (l : List KV) (p : PR) : Bool := if p.kind = 6 then (match p.e with
  | e :: _ => safeK e
  | [] => false) else (match p.to with
  | t :: _ => safeT l t
  | [] => false)
theorem safe_to (k : KN) (c w it : Int) (t : PL) (hw : wfPl t) (e : List KE) (gs : List GD) (b : List PR) (y : KV) (hv0 : 0 ≤ t.v) (hy : k.vars[t.v.toNat]? = some y) : Pure Tryz.prog gsQ 32 [encN k, cellsR ⟨5, c, w, it, [t], e, gs, b⟩] (AB (safeT k.vars t)) := by
  obtain ⟨v, ix⟩ := t
  simp only at hv0 hy
  cases ix with
  | nil =>
    rw [show safeT k.vars ⟨v, []⟩ = true from rfl]
    refine Pure.of (S := tt) (fn := Tryz.f32) (n := 54) tt_ok Tryz.func32 rfl rfl rfl rfl fun w0 h0 F hgs => ?_
    (repeat first|refine A.s rfl ?_|refine A.r rfl rfl ?_|refine A.b rfl fun bx=>?_)
    refine A.x rfl (by decide) rfl rfl rfl ?_
    (repeat first|refine A.s rfl ?_|refine A.w rfl rfl ?_|refine A.b rfl fun bx=>?_)
    refine A.draw 33 [0, 1, 2, 3, 4, 5, 6, 7, 8, 9, 10, 11, 12, 13, 14, 15, 16, 17, 18, 19, 20, 21, 22, 23, 24, 25, 26, 27, 28, 29, 30, 31, 32] noPubs [] (by kernel_rfl) (by kernel_rfl) ?_
    (repeat first|refine WA.s rfl ?_|refine WA.r rfl rfl ?_)
    skip
    refine WA.nil (l := []) rfl ?_
    (repeat refine A.s rfl ?_); refine A.ret1 (Λ' := []) rfl rfl rfl (List.nil_sublist _) ⟨?_, rfl⟩; exact .refl
  | cons x r =>
    have hwx := wfKl_mem hw x (List.mem_cons_self ..)
    have hi32 : i32 x.n := by obtain ⟨xk, xo, xt, xn, xv, xl⟩ := x; rw [wfK] at hwx; exact hwx.1.2.2.2.1
    unfold i32 at hi32
    have hx0 : (encKl (x :: r))[(0 : Int).toNat]? = some (encK x) := encKl_at rfl
    have hln : (((encKl (x :: r)).length : Int) == 0) = false := by rw [encKl_len]; exact beq_eq_false_iff_ne.2 (by rw [List.length_cons]; omega)
    have hst : safeT k.vars ⟨v, x :: r⟩ = (x.kind == 1 && decide (0 ≤ x.n) && decide (x.n < y.dim)) := by unfold safeT; simp only [hy]
    rw [hst]
    clear hst
    cases hk : (x.kind == 1) with
    | false =>
      rw [Bool.false_and, Bool.false_and]
      refine Pure.of (S := tt) (fn := Tryz.f32) (n := 54) tt_ok Tryz.func32 rfl rfl rfl rfl fun w0 h0 F hgs => ?_
      (repeat first|refine A.s rfl ?_|refine A.r rfl rfl ?_|refine A.b rfl fun bx=>?_)
      refine A.x rfl (by decide) rfl rfl rfl ?_
      (repeat first|refine A.s rfl ?_|refine A.w rfl rfl ?_|refine A.b rfl fun bx=>?_)
      refine A.draw 33 [0, 1, 2, 3, 4, 5, 6, 7, 8, 9, 10, 11, 12, 13, 14, 15, 16, 17, 18, 19, 20, 21, 22, 23, 24, 25, 26, 27, 28, 29, 30, 31, 32] noPubs [] (by kernel_rfl) (by kernel_rfl) ?_
      (repeat first|refine WA.s rfl ?_|refine WA.r rfl rfl ?_)
      refine WA.valE 22 rfl (x' := AB false) (ab_eq hln) ?_
      skip
      refine WA.x rfl (by decide) hx0 (encK_eq x) rfl ?_
      (repeat refine WA.s rfl ?_)
      refine WA.valE 29 rfl (x' := AB false) (ab_eq hk) ?_
      (repeat refine WA.s rfl ?_)
      refine WA.nil (l := []) rfl ?_
      (repeat refine A.s rfl ?_); refine A.ret1 (Λ' := []) rfl rfl rfl (List.nil_sublist _) ⟨?_, rfl⟩; exact .refl
    | true =>
    rw [Bool.true_and]
    by_cases hn : 0 ≤ x.n
    case neg =>
      rw [decide_eq_false hn, Bool.false_and]
      refine Pure.of (S := tt) (fn := Tryz.f32) (n := 54) tt_ok Tryz.func32 rfl rfl rfl rfl fun w0 h0 F hgs => ?_
      (repeat first|refine A.s rfl ?_|refine A.r rfl rfl ?_|refine A.b rfl fun bx=>?_)
      refine A.x rfl (by decide) rfl rfl rfl ?_
      (repeat first|refine A.s rfl ?_|refine A.w rfl rfl ?_|refine A.b rfl fun bx=>?_)
      refine A.draw 33 [0, 1, 2, 3, 4, 5, 6, 7, 8, 9, 10, 11, 12, 13, 14, 15, 16, 17, 18, 19, 20, 21, 22, 23, 24, 25, 26, 27, 28, 29, 30, 31, 32] noPubs [] (by kernel_rfl) (by kernel_rfl) ?_
      (repeat first|refine WA.s rfl ?_|refine WA.r rfl rfl ?_)
      refine WA.valE 22 rfl (x' := AB false) (ab_eq hln) ?_
      skip
      refine WA.x rfl (by decide) hx0 (encK_eq x) rfl ?_
      (repeat refine WA.s rfl ?_)
      refine WA.valE 29 rfl (x' := AB true) (ab_eq hk) ?_
      (repeat first|refine WA.s rfl ?_|refine WA.r rfl rfl ?_)
      refine WA.x rfl (by decide) hx0 (encK_eq x) rfl ?_
      (repeat refine WA.s rfl ?_)
      refine WA.valE 37 rfl (x' := AB false) (ab_eq (by simpa using hn)) ?_
      (repeat refine WA.s rfl ?_)
      refine WA.nil (l := []) rfl ?_
      (repeat refine A.s rfl ?_); refine A.ret1 (Λ' := []) rfl rfl rfl (List.nil_sublist _) ⟨?_, rfl⟩; exact .refl
    rw [decide_eq_true hn, Bool.true_and]
    have hcv : IntKind.i64.wrap x.n = x.n := wr64 _ (by omega)
    have hlen : ((k.vars.map encV).length : Int) = k.vars.length := by rw [List.length_map]
    generalize hd : decide (x.n < y.dim) = bd
    refine Pure.of (S := tt) (fn := Tryz.f32) (n := 54) tt_ok Tryz.func32 rfl rfl rfl rfl fun w0 h0 F hgs => ?_
    (repeat first|refine A.s rfl ?_|refine A.r rfl rfl ?_|refine A.b rfl fun bx=>?_)
    refine A.x rfl (by decide) rfl rfl rfl ?_
    (repeat first|refine A.s rfl ?_|refine A.w rfl rfl ?_|refine A.b rfl fun bx=>?_)
    refine A.draw 33 [0, 1, 2, 3, 4, 5, 6, 7, 8, 9, 10, 11, 12, 13, 14, 15, 16, 17, 18, 19, 20, 21, 22, 23, 24, 25, 26, 27, 28, 29, 30, 31, 32] noPubs [] (by kernel_rfl) (by kernel_rfl) ?_
    (repeat first|refine WA.s rfl ?_|refine WA.r rfl rfl ?_)
    refine WA.valE 22 rfl (x' := AB false) (ab_eq hln) ?_
    skip
    refine WA.x rfl (by decide) hx0 (encK_eq x) rfl ?_
    (repeat refine WA.s rfl ?_)
    refine WA.valE 29 rfl (x' := AB true) (ab_eq hk) ?_
    (repeat first|refine WA.s rfl ?_|refine WA.r rfl rfl ?_)
    refine WA.x rfl (by decide) hx0 (encK_eq x) rfl ?_
    (repeat refine WA.s rfl ?_)
    refine WA.valE 37 rfl (x' := AB true) (ab_eq (by simpa using hn)) ?_
    (repeat first|refine WA.s rfl ?_|refine WA.r rfl rfl ?_)
    refine WA.x rfl (by decide) hx0 (encK_eq x) rfl ?_
    (repeat first|refine WA.s rfl ?_|refine WA.r rfl rfl ?_)
    refine WA.valE 43 rfl (x' := AI x.n) (ai_eq hcv) ?_
    refine WA.x rfl hv0 (map_at hy) rfl rfl ?_
    (repeat refine WA.s rfl ?_)
    refine WA.nil (l := []) rfl ?_
    (repeat refine A.s rfl ?_); refine A.ret1 (Λ' := []) rfl rfl rfl (List.nil_sublist _) ⟨?_, rfl⟩; rw [← hd]; exact .refl
theorem safe_p (k : KN) (p : PR) (hw : wfR p) (hk : kindB k.vars k.chans.length p = true) (h56 : p.kind = 5 ∨ p.kind = 6) : Pure Tryz.prog gsQ 32 [encN k, cellsR p] (AB (safeB k.vars p)) := by
  have hwa := wfR_all hw
  rcases h56 with h5 | h6
  · obtain ⟨t, ht, hin⟩ := kind_5 hk h5
    have hpl := place_at (input_place hin).2
    obtain ⟨y, hy⟩ := hpl.2
    have hwt := hwa.to t (by rw [ht]; exact List.mem_cons_self ..)
    obtain ⟨kd, c, w, it, to, e, gs, b⟩ := p
    simp only [PR.kind, PR.to] at h5 ht
    subst h5; subst ht
    exact safe_to k c w it t hwt e gs b y hpl.1 hy
  · obtain ⟨x, hx, hch⟩ := kind_6 hk h6
    have hwx := hwa.e x (by rw [hx]; exact List.mem_cons_self ..)
    obtain ⟨kd, c, w, it, to, e, gs, b⟩ := p
    simp only [PR.kind, PR.e] at h6 hx
    subst h6; subst hx
    have hx0 : (encKl [x])[(0 : Int).toNat]? = some (encK x) := encKl_at rfl
    have hd := dsafe_p x hwx
    rw [encK_eq] at hd
    rw [show safeB k.vars ⟨6, c, w, it, to, [x], gs, b⟩ = safeK x from rfl]
    refine Pure.of (S := tt) (fn := Tryz.f32) (n := 54) tt_ok Tryz.func32 rfl rfl rfl rfl fun w0 h0 F hgs => ?_
    (repeat first|refine A.s rfl ?_|refine A.r rfl rfl ?_|refine A.b rfl fun bx=>?_)
    refine A.x rfl (by decide) hx0 (encK_eq x) rfl ?_
    (repeat refine A.s rfl ?_)
    refine A.c rfl hd .refl ?_
    (repeat refine A.s rfl ?_); refine A.ret1 (Λ' := []) rfl rfl rfl (List.nil_sublist _) ⟨?_, rfl⟩; exact .refl
theorem rsafe_to (k : KN) (c w it : Int) (t : PL) (hw : wfPl t) (e : List KE) (gs : List GD) (b : List PR) (y : KV) (hv0 : 0 ≤ t.v) (hy : k.vars[t.v.toNat]? = some y) : Pure Tryz.prog gsQ 20 [encN k, cellsR ⟨5, c, w, it, [t], e, gs, b⟩] (AB (safeT k.vars t)) := by
  obtain ⟨v, ix⟩ := t
  simp only at hv0 hy
  cases ix with
  | nil =>
    rw [show safeT k.vars ⟨v, []⟩ = true from rfl]
    refine Pure.of (S := tt) (fn := Tryz.f20) (n := 52) tt_ok Tryz.func20 rfl rfl rfl rfl fun w0 h0 F hgs => ?_
    (repeat first|refine A.s rfl ?_|refine A.r rfl rfl ?_|refine A.b rfl fun bx=>?_)
    refine A.x rfl (by decide) rfl rfl rfl ?_
    (repeat refine A.s rfl ?_); refine A.ret1 (Λ' := []) rfl rfl rfl (List.nil_sublist _) ⟨?_, rfl⟩; exact .refl
  | cons x r =>
    have hwx := wfKl_mem hw x (List.mem_cons_self ..)
    have hi32 : i32 x.n := by obtain ⟨xk, xo, xt, xn, xv, xl⟩ := x; rw [wfK] at hwx; exact hwx.1.2.2.2.1
    unfold i32 at hi32
    have hx0 : (encKl (x :: r))[(0 : Int).toNat]? = some (encK x) := encKl_at rfl
    have hln : (((encKl (x :: r)).length : Int) == 0) = false := by rw [encKl_len]; exact beq_eq_false_iff_ne.2 (by rw [List.length_cons]; omega)
    have hst : safeT k.vars ⟨v, x :: r⟩ = (x.kind == 1 && decide (0 ≤ x.n) && decide (x.n < y.dim)) := by unfold safeT; simp only [hy]
    rw [hst]
    clear hst
    cases hk : (x.kind == 1) with
    | false =>
      rw [Bool.false_and, Bool.false_and]
      refine Pure.of (S := tt) (fn := Tryz.f20) (n := 52) tt_ok Tryz.func20 rfl rfl rfl rfl fun w0 h0 F hgs => ?_
      (repeat first|refine A.s rfl ?_|refine A.r rfl rfl ?_|refine A.b rfl fun bx=>?_)
      refine A.x rfl (by decide) rfl rfl rfl ?_
      (repeat first|refine A.s rfl ?_|refine A.r rfl rfl ?_)
      refine A.valE 20 rfl (x' := AB false) (ab_eq hln) ?_
      skip
      refine A.x rfl (by decide) rfl rfl rfl ?_
      (repeat refine A.s rfl ?_)
      refine A.x rfl (by decide) hx0 (encK_eq x) rfl ?_
      (repeat first|refine A.s rfl ?_|refine A.w rfl rfl ?_|refine A.b rfl fun bx=>?_)
      refine A.draw 22 [0, 1, 2, 3, 4, 5, 6, 7, 8, 9, 10, 11, 12, 13, 14, 15, 16, 17, 18, 19, 20, 21] noPubs [] (by kernel_rfl) (by kernel_rfl) ?_
      (repeat first|refine WA.s rfl ?_|refine WA.r rfl rfl ?_)
      refine WA.valE 31 rfl (x' := AB false) (ab_eq hk) ?_
      (repeat refine WA.s rfl ?_)
      refine WA.nil (l := []) rfl ?_
      (repeat refine A.s rfl ?_); refine A.ret1 (Λ' := []) rfl rfl rfl (List.nil_sublist _) ⟨?_, rfl⟩; exact .refl
    | true =>
    rw [Bool.true_and]
    by_cases hn : 0 ≤ x.n
    case neg =>
      rw [decide_eq_false hn, Bool.false_and]
      refine Pure.of (S := tt) (fn := Tryz.f20) (n := 52) tt_ok Tryz.func20 rfl rfl rfl rfl fun w0 h0 F hgs => ?_
      (repeat first|refine A.s rfl ?_|refine A.r rfl rfl ?_|refine A.b rfl fun bx=>?_)
      refine A.x rfl (by decide) rfl rfl rfl ?_
      (repeat first|refine A.s rfl ?_|refine A.r rfl rfl ?_)
      refine A.valE 20 rfl (x' := AB false) (ab_eq hln) ?_
      skip
      refine A.x rfl (by decide) rfl rfl rfl ?_
      (repeat refine A.s rfl ?_)
      refine A.x rfl (by decide) hx0 (encK_eq x) rfl ?_
      (repeat first|refine A.s rfl ?_|refine A.w rfl rfl ?_|refine A.b rfl fun bx=>?_)
      refine A.draw 22 [0, 1, 2, 3, 4, 5, 6, 7, 8, 9, 10, 11, 12, 13, 14, 15, 16, 17, 18, 19, 20, 21] noPubs [] (by kernel_rfl) (by kernel_rfl) ?_
      (repeat first|refine WA.s rfl ?_|refine WA.r rfl rfl ?_)
      refine WA.valE 31 rfl (x' := AB true) (ab_eq hk) ?_
      (repeat first|refine WA.s rfl ?_|refine WA.r rfl rfl ?_)
      refine WA.valE 36 rfl (x' := AB false) (ab_eq (by simpa using hn)) ?_
      (repeat refine WA.s rfl ?_)
      refine WA.nil (l := []) rfl ?_
      (repeat refine A.s rfl ?_); refine A.ret1 (Λ' := []) rfl rfl rfl (List.nil_sublist _) ⟨?_, rfl⟩; exact .refl
    rw [decide_eq_true hn, Bool.true_and]
    have hcv : IntKind.i64.wrap x.n = x.n := wr64 _ (by omega)
    generalize hd : decide (x.n < y.dim) = bd
    refine Pure.of (S := tt) (fn := Tryz.f20) (n := 52) tt_ok Tryz.func20 rfl rfl rfl rfl fun w0 h0 F hgs => ?_
    (repeat first|refine A.s rfl ?_|refine A.r rfl rfl ?_|refine A.b rfl fun bx=>?_)
    refine A.x rfl (by decide) rfl rfl rfl ?_
    (repeat first|refine A.s rfl ?_|refine A.r rfl rfl ?_)
    refine A.valE 20 rfl (x' := AB false) (ab_eq hln) ?_
    skip
    refine A.x rfl (by decide) rfl rfl rfl ?_
    (repeat refine A.s rfl ?_)
    refine A.x rfl (by decide) hx0 (encK_eq x) rfl ?_
    (repeat first|refine A.s rfl ?_|refine A.w rfl rfl ?_|refine A.b rfl fun bx=>?_)
    refine A.draw 22 [0, 1, 2, 3, 4, 5, 6, 7, 8, 9, 10, 11, 12, 13, 14, 15, 16, 17, 18, 19, 20, 21] noPubs [] (by kernel_rfl) (by kernel_rfl) ?_
    (repeat first|refine WA.s rfl ?_|refine WA.r rfl rfl ?_)
    refine WA.valE 31 rfl (x' := AB true) (ab_eq hk) ?_
    (repeat first|refine WA.s rfl ?_|refine WA.r rfl rfl ?_)
    refine WA.valE 36 rfl (x' := AB true) (ab_eq (by simpa using hn)) ?_
    (repeat first|refine WA.s rfl ?_|refine WA.r rfl rfl ?_)
    refine WA.valE 39 rfl (x' := AI x.n) (ai_eq hcv) ?_
    refine WA.x rfl (by decide) rfl rfl rfl ?_
    (repeat refine WA.s rfl ?_)
    refine WA.x rfl hv0 (map_at hy) rfl rfl ?_
    (repeat refine WA.s rfl ?_)
    refine WA.nil (l := []) rfl ?_
    (repeat refine A.s rfl ?_); refine A.ret1 (Λ' := []) rfl rfl rfl (List.nil_sublist _) ⟨?_, rfl⟩; rw [← hd]; exact .refl
theorem rsafe_p (k : KN) (p : PR) (hw : wfR p) (hk : kindB k.vars k.chans.length p = true) (h56 : p.kind = 5 ∨ p.kind = 6) : Pure Tryz.prog gsQ 20 [encN k, cellsR p] (AB (safeB k.vars p)) := by
  have hwa := wfR_all hw
  rcases h56 with h5 | h6
  · obtain ⟨t, ht, hin⟩ := kind_5 hk h5
    have hpl := place_at (input_place hin).2
    obtain ⟨y, hy⟩ := hpl.2
    have hwt := hwa.to t (by rw [ht]; exact List.mem_cons_self ..)
    obtain ⟨kd, c, w, it, to, e, gs, b⟩ := p
    simp only [PR.kind, PR.to] at h5 ht
    subst h5; subst ht
    exact rsafe_to k c w it t hwt e gs b y hpl.1 hy
  · obtain ⟨x, hx, hch⟩ := kind_6 hk h6
    have hwx := hwa.e x (by rw [hx]; exact List.mem_cons_self ..)
    obtain ⟨kd, c, w, it, to, e, gs, b⟩ := p
    simp only [PR.kind, PR.e] at h6 hx
    subst h6; subst hx
    have hx0 : (encKl [x])[(0 : Int).toNat]? = some (encK x) := encKl_at rfl
    have hd := rsafe22_p x hwx
    rw [encK_eq] at hd
    rw [show safeB k.vars ⟨6, c, w, it, to, [x], gs, b⟩ = safeK x from rfl]
    refine Pure.of (S := tt) (fn := Tryz.f20) (n := 52) tt_ok Tryz.func20 rfl rfl rfl rfl fun w0 h0 F hgs => ?_
    (repeat first|refine A.s rfl ?_|refine A.r rfl rfl ?_|refine A.b rfl fun bx=>?_)
    refine A.x rfl (by decide) hx0 (encK_eq x) rfl ?_
    (repeat refine A.s rfl ?_)
    refine A.c rfl hd .refl ?_
    (repeat refine A.s rfl ?_); refine A.ret1 (Λ' := []) rfl rfl rfl (List.nil_sublist _) ⟨?_, rfl⟩; exact .refl
end Go.Proofs.YtgmeahcclogfmaaGreatDoor
/-!
  Chapter 23: the steps of a branch, by the program.
-/
namespace Go.Proofs.YtgmeahcclogfmaaGreatDoor
open Go Go.Tp
set_option linter.unusedVariables false
set_option linter.unusedSimpArgs false
set_option maxRecDepth 100000
set_option maxHeartbeats 4000000
structure Good (k : KN) (p : PR) : Prop where
  wf : wfR p
  ok : ∃ h, okR k.vars k.chans.length h p = true
theorem okL_mem {l : List KV} {n : Nat} {high : Bool} : ∀ {ps : List PR} {first : Bool}, okL l n high first ps = true → ∀ x, x ∈ ps → ∃ h, okR l n h x = true
  | [], _, _, x, hx => by cases hx
  | y :: r, first, h, x, hx => by
    rw [okL, Bool.and_eq_true] at h
    rcases List.mem_cons.1 hx with rfl | hx
    · exact ⟨_, h.1⟩
    · exact okL_mem h.2 x hx
theorem Good.kind {k : KN} {p : PR} (g : Good k p) : kindB k.vars k.chans.length p = true := by
  obtain ⟨h, hk⟩ := g.ok
  rw [okR_eq] at hk
  simp only [Bool.and_eq_true] at hk
  exact hk.1.1.1
theorem Good.l {k : KN} {p : PR} (g : Good k p) {x : PR} (hx : x ∈ p.l) : Good k x := by
  refine ⟨(wfR_all g.wf).l x hx, ?_⟩
  obtain ⟨h, hk⟩ := g.ok
  rw [okR_eq] at hk
  simp only [Bool.and_eq_true] at hk
  exact okL_mem hk.1.2 x hx
theorem Good.len {k : KN} {p : PR} (g : Good k p) : p.l.length ≤ 281474976710656 := (wfR_all g.wf).ll
theorem Good.last {k : KN} {p : PR} (g : Good k p) : Good k (lastR p) := by
  cases h : clearB p with
  | false => rw [lastR_no h]; exact g
  | true =>
    obtain ⟨y, hy⟩ := lastp_at h
    rw [lastR_yes h hy]; exact g.l (List.mem_of_getElem? hy)
theorem form_l2 {k : Int} {f : FM} (h : formK k = some f) : f.l2 ≤ 2048 := by
  by_cases hk : 1 ≤ k ∧ k ≤ 15
  · rcases kinds_15 hk with rfl | rfl | rfl | rfl | rfl | rfl | rfl | rfl | rfl | rfl | rfl | rfl | rfl | rfl | rfl
    all_goals (simp [formK] at h; subst h; simp [fm0])
  · have hn : formK k = none := by
      unfold formK
      rw [if_neg (by omega), if_neg (by omega), if_neg (by omega), if_neg (by omega), if_neg (by omega), if_neg (by omega), if_neg (by omega), if_neg (by omega), if_neg (by omega), if_neg (by omega), if_neg (by omega), if_neg (by omega)]
    rw [hn] at h; cases h
theorem Good.short {k : KN} {p : PR} (g : Good k p) : p.l.length ≤ 2048 := by
  have hlk : looksB p = true := by
    cases h : looksB p with
    | true => rfl
    | false => have := looks_of_kind (l := k.vars) (n := k.chans.length) h; rw [g.kind] at this; cases this
  unfold looksB at hlk
  split at hlk
  · rename_i f hf
    have := form_l2 hf
    simp only [shapeR, inB, Bool.and_eq_true, decide_eq_true_eq] at hlk
    omega
  · cases hlk
theorem stepL_good {k : KN} {s : PR} (g : Good k s) {x : PR} (hx : x ∈ stepL s) : Good k x := by
  unfold stepL at hx
  split at hx
  · exact g.l hx
  · rw [List.mem_singleton] at hx; subst hx; exact g
theorem single_mem {s x : PR} (hx : x ∈ singleP s) : x ∈ stepL s ∧ badQ x = false := by
  unfold singleP at hx
  split at hx
  · cases hx
  · rename_i h
    refine ⟨hx, ?_⟩
    cases hb : badQ x with
    | false => rfl
    | true => exact (h (List.any_eq_true.2 ⟨x, hx, hb⟩)).elim
theorem badq_no {x : PR} (h : badQ x = false) : (x.kind = 5 ∨ x.kind = 6) ∧ 2 ≤ x.c := by
  simp only [badQ, Bool.or_eq_false_iff, Bool.and_eq_false_iff, decide_eq_false_iff_not] at h
  refine ⟨?_, by omega⟩
  rcases h.1 with h | h
  · exact .inl (by simpa using h)
  · exact .inr (by simpa using h)
theorem single_short {k : KN} {s : PR} (g : Good k s) : (singleP s).length ≤ 2048 := by
  have := g.short
  unfold singleP
  by_cases h : (stepL s).any badQ = true
  · rw [if_pos h]; simp
  · rw [if_neg h, stepL]
    by_cases h10 : s.kind = 10
    · rw [if_pos h10]; exact this
    · rw [if_neg h10]; simp
theorem isEmpty_eq (l : List PR) : ((l.length : Int) == 0) = l.isEmpty := by
  cases l with
  | nil => rfl
  | cons a r => exact beq_eq_false_iff_ne.2 (by rw [List.length_cons]; omega)
def oneW (q : PR) : Bool := match q.e with
  | e :: _ => e.kind == 1 && e.n == 1
  | [] => false
def stepsW (q : PR) : List PR := match q.l with
  | y :: _ => if y.kind = 9 then y.l else q.l
  | [] => []
def goodS (k : KN) (s : PR) : Bool := !(singleP s).isEmpty && (singleP s).all (safeB k.vars)
def cycW (k : KN) (q : PR) : List (List PR) := if q.kind = 13 ∧ oneW q = true ∧ (stepsW q).all (goodS k) = true then (stepsW q).map singleP else []
def cycP (k : KN) (p : PR) : List (List PR) := cycW k (lastR p)
abbrev stepsA (l : List (List PR)) : AV := .sl 1 (l.map rsA) none
theorem cyc1_p (k : KN) (x : PR) (g : Good k x) (h56 : x.kind = 5 ∨ x.kind = 6) : Pure Tryz.prog gsQ 31 [cellsR x, .pe 11 (encN k)] (AB (!safeB k.vars x)) := by
  have hs := safe_p k x g.wf g.kind h56
  generalize safeB k.vars x = b at hs ⊢
  refine Pure.of (S := tt) (fn := Tryz.f31) (n := 8) tt_ok Tryz.func31 rfl rfl rfl rfl fun w0 h0 F hgs => ?_
  (repeat first|refine A.s rfl ?_|refine A.r rfl rfl ?_|refine A.b rfl fun bx=>?_)
  refine A.c rfl hs .refl ?_
  (repeat refine A.s rfl ?_); refine A.ret1 (Λ' := []) rfl rfl rfl (List.nil_sublist _) ⟨?_, rfl⟩; exact .refl
theorem unsafe_p (k : KN) (s : PR) (g : Good k s) : Pure Tryz.prog gsQ 25 [rsA (singleP s), .fn 31 [] [.pe 11 (encN k)]] (AB (!(singleP s).all (safeB k.vars))) := by
  have := hasR_p 31 [.pe 11 (encN k)] (fun x => !safeB k.vars x) (singleP s) (fun x hx => cyc1_p k x (stepL_good g (single_mem hx).1) (badq_no (single_mem hx).2).1) (by have := single_short g; omega)
  rwa [show (singleP s).any (fun x => !safeB k.vars x) = !(singleP s).all (safeB k.vars) by rw [List.not_all_eq_any_not]] at this
theorem cycw_p (k : KN) (q : PR) (g : Good k q) (R : AV) (hR : R = stepsA (cycW k q)) (p : PR) (hlast : Pure Tryz.prog gsQ 13 [cellsR p, AU8 13] (.tp [cellsR q, AB (q.kind == 13)])) : Pure Tryz.prog gsQ 15 [encN k, cellsR p] R := by
  by_cases h13 : q.kind = 13
  case neg =>
    have hb : (q.kind == 13) = false := beq_eq_false_iff_ne.2 h13
    rw [hb] at hlast
    rw [cycW, if_neg (fun h => h13 h.1)] at hR
    subst hR
    refine Pure.of (S := tt) (fn := Tryz.f15) (n := 68) tt_ok Tryz.func15 rfl rfl rfl rfl fun w0 h0 F hgs => ?_
    (repeat first|refine A.s rfl ?_|refine A.r rfl rfl ?_|refine A.b rfl fun bx=>?_)
    refine A.c rfl hlast .refl ?_
    (repeat first|refine A.s rfl ?_|refine A.w rfl rfl ?_); refine A.ret1 (Λ' := []) rfl rfl rfl (List.nil_sublist _) ⟨?_, rfl⟩; exact .nil
  have hb : (q.kind == 13) = true := beq_iff_eq.2 h13
  rw [hb] at hlast
  obtain ⟨x, y, hx, hy⟩ := kind_13 g.kind h13
  have gy : Good k y := g.l (by rw [hy]; exact List.mem_cons_self ..)
  have hx0 : (encKl q.e)[(0 : Int).toNat]? = some (encK x) := encKl_at (by rw [hx]; rfl)
  have hy0 : (encRl q.l)[(0 : Int).toNat]? = some (encR y) := encRl_at (by rw [hy]; rfl)
  have how : oneW q = (x.kind == 1 && x.n == 1) := by unfold oneW; rw [hx]
  have hsw : stepsW q = if y.kind = 9 then y.l else q.l := by unfold stepsW; rw [hy]
  cases h1 : (x.kind == 1) with
  | false =>
    rw [cycW, if_neg (fun h => by have := h.2.1; rw [how, h1] at this; cases this)] at hR
    subst hR
    refine Pure.of (S := tt) (fn := Tryz.f15) (n := 68) tt_ok Tryz.func15 rfl rfl rfl rfl fun w0 h0 F hgs => ?_
    (repeat first|refine A.s rfl ?_|refine A.r rfl rfl ?_|refine A.b rfl fun bx=>?_)
    refine A.c rfl hlast .refl ?_
    (repeat first|refine A.s rfl ?_|refine A.r rfl rfl ?_|refine A.w rfl rfl ?_)
    refine A.x rfl (by decide) hx0 (encK_eq x) rfl ?_
    (repeat refine A.s rfl ?_)
    refine A.valE 25 rfl (x' := AB true) (ab_eq (by show (!(x.kind == 1)) = true; rw [h1]; rfl)) ?_
    (repeat refine A.s rfl ?_); refine A.ret1 (Λ' := []) rfl rfl rfl (List.nil_sublist _) ⟨?_, rfl⟩; exact .nil
  | true =>
  cases h2 : (x.n == 1) with
  | false =>
    rw [cycW, if_neg (fun h => by have := h.2.1; rw [how, h1, h2] at this; cases this)] at hR
    subst hR
    refine Pure.of (S := tt) (fn := Tryz.f15) (n := 68) tt_ok Tryz.func15 rfl rfl rfl rfl fun w0 h0 F hgs => ?_
    (repeat first|refine A.s rfl ?_|refine A.r rfl rfl ?_|refine A.b rfl fun bx=>?_)
    refine A.c rfl hlast .refl ?_
    (repeat first|refine A.s rfl ?_|refine A.r rfl rfl ?_|refine A.w rfl rfl ?_)
    refine A.x rfl (by decide) hx0 (encK_eq x) rfl ?_
    (repeat refine A.s rfl ?_)
    refine A.valE 25 rfl (x' := AB false) (ab_eq (by show (!(x.kind == 1)) = false; rw [h1]; rfl)) ?_
    (repeat first|refine A.s rfl ?_|refine A.r rfl rfl ?_)
    refine A.x rfl (by decide) hx0 (encK_eq x) rfl ?_
    (repeat refine A.s rfl ?_)
    refine A.valE 32 rfl (x' := AB true) (ab_eq (by show (!(x.n == 1)) = true; rw [h2]; rfl)) ?_
    (repeat refine A.s rfl ?_); refine A.ret1 (Λ' := []) rfl rfl rfl (List.nil_sublist _) ⟨?_, rfl⟩; exact .nil
  | true =>
  rw [h1, h2, Bool.true_and] at how
  have hR : R = stepsA (if (stepsW q).all (goodS k) = true then (stepsW q).map singleP else []) := by
    rw [hR, cycW]
    by_cases ha : (stepsW q).all (goodS k) = true
    · rw [if_pos ⟨h13, how, ha⟩, if_pos ha]
    · rw [if_neg (fun h => ha h.2.2), if_neg ha]
  by_cases h9 : y.kind = 9
  · have hb9 : (y.kind == 9) = true := beq_iff_eq.2 h9
    rw [hsw, if_pos h9] at hR
    have hgS : ∀ s, s ∈ y.l → Good k s := fun s hs => gy.l hs
    have hsl := gy.short
    refine Exists.elim (show ∃ S, S = y.l from ⟨_, rfl⟩) fun S hS => ?_
    rw [← hS] at hR hgS hsl
    refine Pure.of (S := tt) (fn := Tryz.f15) (n := 68) tt_ok Tryz.func15 rfl rfl rfl rfl fun w0 h0 F hgs => ?_
    (repeat first|refine A.s rfl ?_|refine A.r rfl rfl ?_|refine A.b rfl fun bx=>?_)
    refine A.freeze 2 (sz := 11) rfl rfl rfl ?_
    refine A.c rfl hlast .refl ?_
    (repeat first|refine A.s rfl ?_|refine A.r rfl rfl ?_|refine A.w rfl rfl ?_)
    refine A.x rfl (by decide) hx0 (encK_eq x) rfl ?_
    (repeat refine A.s rfl ?_)
    refine A.valE 25 rfl (x' := AB false) (ab_eq (by show (!(x.kind == 1)) = false; rw [h1]; rfl)) ?_
    (repeat first|refine A.s rfl ?_|refine A.r rfl rfl ?_)
    refine A.x rfl (by decide) hx0 (encK_eq x) rfl ?_
    (repeat refine A.s rfl ?_)
    refine A.valE 32 rfl (x' := AB false) (ab_eq (by show (!(x.n == 1)) = false; rw [h2]; rfl)) ?_
    (repeat first|refine A.s rfl ?_|refine A.r rfl rfl ?_)
    refine A.x rfl (by decide) hy0 (encR_eq y) rfl ?_
    (repeat refine A.s rfl ?_)
    refine A.valE 40 rfl (x' := AB true) (ab_eq hb9) ?_
    (repeat first|refine A.s rfl ?_|refine A.r rfl rfl ?_)
    refine A.x rfl (by decide) hy0 (encR_eq y) rfl ?_
    (repeat refine A.s rfl ?_)
    refine A.valE 46 rfl (x' := rsA S) (by rw [hS]) ?_
    refine A.valE 47 rfl (x' := AI (S.length : Nat)) (ai_eq (by rw [encRl_len, hS])) ?_
    refine A.nilTail 4 1 rfl ?_
    refine A.keep [2, 4, 46, 47, 48] rfl ?_
    refine A.loopP (ι := Nat × Value) (fun q => (⟨[(2, .pe 11 (encN k)), (4, .sl 1 (((S.take q.1).map singleP).map rsA) (some q.2)), (46, rsA S), (47, AI (S.length : Nat)), (48, AI (q.1 : Nat))], []⟩, [.tail 1 q.2, .box _ _])) (fun q => q.1 ≤ S.length ∧ (S.take q.1).all (goodS k) = true) (fun q => S.length - q.1) (0, .slice none 0 0) ⟨Nat.zero_le _, rfl⟩ rfl fun q hi ih => ?_
    obtain ⟨i, z⟩ := q
    obtain ⟨hi1, hi2⟩ := hi
    simp only at hi1 hi2
    (repeat refine A.s rfl ?_)
    refine A.cond rfl (fun hc => ?_) (fun hc => ?_)
    · have hc : i < S.length := by simpa using hc
      refine Exists.elim (at_exN (l := S) (i := i) hc) fun s hs => ?_
      have gs := hgS s (List.mem_of_getElem? hs)
      have hsing := (single_p s gs.len).any (gs := gsQ)
      have huns := unsafe_p k s gs
      have htk : S.take (i + 1) = S.take i ++ [s] := by rw [List.take_add_one, hs]; rfl
      have hbad : goodS k s = false → R = stepsA [] := fun h => by
        have : S.all (goodS k) = false := by
          cases ha : S.all (goodS k) with
          | false => rfl
          | true => rw [List.all_eq_true] at ha; rw [ha s (List.mem_of_getElem? hs)] at h; cases h
        rw [hR, if_neg (by rw [this]; simp)]
      refine Exists.elim (show ∃ sm, sm = singleP s from ⟨_, rfl⟩) fun sm hsome => ?_
      have hshort := single_short gs
      rw [← hsome] at hsing huns hshort
      (repeat refine A.s rfl ?_)
      refine A.x rfl (by show (0 : Int) ≤ (i : Nat); omega) (encRl_at hs) (encR_eq s) rfl ?_
      (repeat first|refine A.s rfl ?_|refine A.r rfl rfl ?_|refine A.w rfl rfl ?_|refine A.b rfl fun bx=>?_)
      refine A.c rfl hsing .refl ?_
      (repeat refine A.s rfl ?_)
      refine A.valE 57 rfl (x' := AB sm.isEmpty) (ab_eq (by rw [encRl_len]; exact isEmpty_eq sm)) ?_
      cases hem : sm.isEmpty with
      | true =>
        rw [hbad (by rw [goodS, ← hsome, hem]; rfl)]
        (repeat refine A.s rfl ?_); refine A.ret1 (Λ' := []) rfl rfl rfl (List.nil_sublist _) ⟨?_, rfl⟩; exact .nil
      | false =>
      (repeat refine A.s rfl ?_)
      refine A.c rfl huns .refl ?_
      (repeat refine A.s rfl ?_)
      cases hall : sm.all (safeB k.vars) with
      | false =>
        rw [hbad (by rw [goodS, ← hsome, hem, hall]; rfl)]
        refine A.valE 61 rfl (x' := AB true) (ab_eq rfl) ?_
        (repeat refine A.s rfl ?_); refine A.ret1 (Λ' := []) rfl rfl rfl (List.nil_sublist _) ⟨?_, rfl⟩; exact .nil
      | true =>
        refine A.valE 61 rfl (x' := AB false) (ab_eq rfl) ?_
        (repeat first|refine A.s rfl ?_|refine A.t rfl fun bl=>?_)
        refine A.entsEq (Λ' := [_, .tail ty29.size z, _]) rfl ?_
        refine A.append rfl rfl rfl rfl rfl rfl rfl rfl rfl rfl rfl rfl rfl rfl (by show ((((S.take i).map singleP).map rsA).length + 1) * 1 ≤ _; rw [List.length_map, List.length_map, List.length_take]; omega) fun z' => ?_
        (repeat refine A.s rfl ?_)
        refine A.valE 4 rfl (x' := .sl 1 (((S.take (i + 1)).map singleP).map rsA) (some z')) (by rw [htk]; simp only [List.map_append, List.map_cons, List.map_nil, ← hsome]; rfl) ?_
        refine A.valE 48 rfl (x' := AI ((i + 1 : Nat) : Int)) (inc_eq i (by omega)) ?_
        refine A.less (List.Sublist.cons_cons _ (List.Sublist.cons _ (List.Sublist.refl _))) ?_
        refine A.sub (by repeat (first | exact trivial | refine ⟨⟨_, rfl, .refl⟩, ?_⟩)) (ih (i + 1, z') ⟨by show i + 1 ≤ _; omega, by show (S.take (i + 1)).all _ = true; rw [htk, List.all_append, hi2, List.all_cons, List.all_nil, goodS, ← hsome, hem, hall]; rfl⟩ (by show _ - (i + 1) < _ - i; omega))
    have hc : ¬ i < S.length := by simpa using hc
    have hil : i = S.length := by omega
    rw [hil, List.take_length] at hi2
    rw [if_pos hi2] at hR
    rw [hR]
    (repeat refine A.s rfl ?_); refine A.ret1 (Λ' := []) rfl rfl rfl (List.nil_sublist _) ⟨?_, rfl⟩
    rw [hil, List.take_length]
    exact .own .refl
  · have hb9 : (y.kind == 9) = false := beq_eq_false_iff_ne.2 h9
    rw [hsw, if_neg h9] at hR
    have hgS : ∀ s, s ∈ q.l → Good k s := fun s hs => g.l hs
    have hsl := g.short
    refine Exists.elim (show ∃ S, S = q.l from ⟨_, rfl⟩) fun S hS => ?_
    rw [← hS] at hR hgS hsl
    refine Pure.of (S := tt) (fn := Tryz.f15) (n := 68) tt_ok Tryz.func15 rfl rfl rfl rfl fun w0 h0 F hgs => ?_
    (repeat first|refine A.s rfl ?_|refine A.r rfl rfl ?_|refine A.b rfl fun bx=>?_)
    refine A.freeze 2 (sz := 11) rfl rfl rfl ?_
    refine A.c rfl hlast .refl ?_
    (repeat first|refine A.s rfl ?_|refine A.r rfl rfl ?_|refine A.w rfl rfl ?_)
    refine A.x rfl (by decide) hx0 (encK_eq x) rfl ?_
    (repeat refine A.s rfl ?_)
    refine A.valE 25 rfl (x' := AB false) (ab_eq (by show (!(x.kind == 1)) = false; rw [h1]; rfl)) ?_
    (repeat first|refine A.s rfl ?_|refine A.r rfl rfl ?_)
    refine A.x rfl (by decide) hx0 (encK_eq x) rfl ?_
    (repeat refine A.s rfl ?_)
    refine A.valE 32 rfl (x' := AB false) (ab_eq (by show (!(x.n == 1)) = false; rw [h2]; rfl)) ?_
    (repeat first|refine A.s rfl ?_|refine A.r rfl rfl ?_)
    refine A.x rfl (by decide) hy0 (encR_eq y) rfl ?_
    (repeat refine A.s rfl ?_)
    refine A.valE 40 rfl (x' := AB false) (ab_eq hb9) ?_
    (repeat refine A.s rfl ?_)
    refine A.valE 46 rfl (x' := rsA S) (by rw [hS]) ?_
    refine A.valE 47 rfl (x' := AI (S.length : Nat)) (ai_eq (by rw [encRl_len, hS])) ?_
    refine A.nilTail 4 1 rfl ?_
    refine A.keep [2, 4, 46, 47, 48] rfl ?_
    refine A.loopP (ι := Nat × Value) (fun q => (⟨[(2, .pe 11 (encN k)), (4, .sl 1 (((S.take q.1).map singleP).map rsA) (some q.2)), (46, rsA S), (47, AI (S.length : Nat)), (48, AI (q.1 : Nat))], []⟩, [.tail 1 q.2, .box _ _])) (fun q => q.1 ≤ S.length ∧ (S.take q.1).all (goodS k) = true) (fun q => S.length - q.1) (0, .slice none 0 0) ⟨Nat.zero_le _, rfl⟩ rfl fun q hi ih => ?_
    obtain ⟨i, z⟩ := q
    obtain ⟨hi1, hi2⟩ := hi
    simp only at hi1 hi2
    (repeat refine A.s rfl ?_)
    refine A.cond rfl (fun hc => ?_) (fun hc => ?_)
    · have hc : i < S.length := by simpa using hc
      refine Exists.elim (at_exN (l := S) (i := i) hc) fun s hs => ?_
      have gs := hgS s (List.mem_of_getElem? hs)
      have hsing := (single_p s gs.len).any (gs := gsQ)
      have huns := unsafe_p k s gs
      have htk : S.take (i + 1) = S.take i ++ [s] := by rw [List.take_add_one, hs]; rfl
      have hbad : goodS k s = false → R = stepsA [] := fun h => by
        have : S.all (goodS k) = false := by
          cases ha : S.all (goodS k) with
          | false => rfl
          | true => rw [List.all_eq_true] at ha; rw [ha s (List.mem_of_getElem? hs)] at h; cases h
        rw [hR, if_neg (by rw [this]; simp)]
      refine Exists.elim (show ∃ sm, sm = singleP s from ⟨_, rfl⟩) fun sm hsome => ?_
      have hshort := single_short gs
      rw [← hsome] at hsing huns hshort
      (repeat refine A.s rfl ?_)
      refine A.x rfl (by show (0 : Int) ≤ (i : Nat); omega) (encRl_at hs) (encR_eq s) rfl ?_
      (repeat first|refine A.s rfl ?_|refine A.r rfl rfl ?_|refine A.w rfl rfl ?_|refine A.b rfl fun bx=>?_)
      refine A.c rfl hsing .refl ?_
      (repeat refine A.s rfl ?_)
      refine A.valE 57 rfl (x' := AB sm.isEmpty) (ab_eq (by rw [encRl_len]; exact isEmpty_eq sm)) ?_
      cases hem : sm.isEmpty with
      | true =>
        rw [hbad (by rw [goodS, ← hsome, hem]; rfl)]
        (repeat refine A.s rfl ?_); refine A.ret1 (Λ' := []) rfl rfl rfl (List.nil_sublist _) ⟨?_, rfl⟩; exact .nil
      | false =>
      (repeat refine A.s rfl ?_)
      refine A.c rfl huns .refl ?_
      (repeat refine A.s rfl ?_)
      cases hall : sm.all (safeB k.vars) with
      | false =>
        rw [hbad (by rw [goodS, ← hsome, hem, hall]; rfl)]
        refine A.valE 61 rfl (x' := AB true) (ab_eq rfl) ?_
        (repeat refine A.s rfl ?_); refine A.ret1 (Λ' := []) rfl rfl rfl (List.nil_sublist _) ⟨?_, rfl⟩; exact .nil
      | true =>
        refine A.valE 61 rfl (x' := AB false) (ab_eq rfl) ?_
        (repeat first|refine A.s rfl ?_|refine A.t rfl fun bl=>?_)
        refine A.entsEq (Λ' := [_, .tail ty29.size z, _]) rfl ?_
        refine A.append rfl rfl rfl rfl rfl rfl rfl rfl rfl rfl rfl rfl rfl rfl (by show ((((S.take i).map singleP).map rsA).length + 1) * 1 ≤ _; rw [List.length_map, List.length_map, List.length_take]; omega) fun z' => ?_
        (repeat refine A.s rfl ?_)
        refine A.valE 4 rfl (x' := .sl 1 (((S.take (i + 1)).map singleP).map rsA) (some z')) (by rw [htk]; simp only [List.map_append, List.map_cons, List.map_nil, ← hsome]; rfl) ?_
        refine A.valE 48 rfl (x' := AI ((i + 1 : Nat) : Int)) (inc_eq i (by omega)) ?_
        refine A.less (List.Sublist.cons_cons _ (List.Sublist.cons _ (List.Sublist.refl _))) ?_
        refine A.sub (by repeat (first | exact trivial | refine ⟨⟨_, rfl, .refl⟩, ?_⟩)) (ih (i + 1, z') ⟨by show i + 1 ≤ _; omega, by show (S.take (i + 1)).all _ = true; rw [htk, List.all_append, hi2, List.all_cons, List.all_nil, goodS, ← hsome, hem, hall]; rfl⟩ (by show _ - (i + 1) < _ - i; omega))
    have hc : ¬ i < S.length := by simpa using hc
    have hil : i = S.length := by omega
    rw [hil, List.take_length] at hi2
    rw [if_pos hi2] at hR
    rw [hR]
    (repeat refine A.s rfl ?_); refine A.ret1 (Λ' := []) rfl rfl rfl (List.nil_sublist _) ⟨?_, rfl⟩
    rw [hil, List.take_length]
    exact .own .refl
theorem branch_p (k : KN) (p : PR) (g : Good k p) : Pure Tryz.prog gsQ 15 [encN k, cellsR p] (stepsA (cycP k p)) :=
  cycw_p k (lastR p) g.last _ rfl p (last_p p 13 g.len).any
end Go.Proofs.YtgmeahcclogfmaaGreatDoor
/-!
  Chapter 23: sets of channels as words, networks, the law's and the reference's small functions.
-/
namespace Go.Proofs.YtgmeahcclogfmaaGreatDoor
open Go Go.Tp
set_option linter.unusedVariables false
set_option linter.unusedSimpArgs false
set_option maxRecDepth 100000
set_option maxHeartbeats 4000000
/-! ### words of 64 bits -/
abbrev W64 := BitVec 64
abbrev U64 (b : W64) : AV := .v (.int .u64 (b.toNat : Int))
theorem u64_eq {a : Int} {b : W64} (h : a = b.toNat) : AV.v (.int .u64 a) = U64 b := by rw [h]
theorem wrap_bv (b : W64) : IntKind.u64.wrap (b.toNat : Int) = b.toNat := by
  have := b.isLt
  rw [wu64_eq]; omega
theorem ofInt_bv (b : W64) : BitVec.ofInt 64 (b.toNat : Int) = b := by
  apply BitVec.eq_of_toNat_eq; simp
theorem uand (a b : W64) : bitsOf .and .u64 (a.toNat : Int) (b.toNat : Int) = ((a &&& b).toNat : Int) := by
  show IntKind.u64.wrap ((BitVec.ofInt 64 (a.toNat : Int) &&& BitVec.ofInt 64 (b.toNat : Int)).toNat : Int) = _
  rw [ofInt_bv, ofInt_bv]; exact wrap_bv _
theorem uor (a b : W64) : bitsOf .or .u64 (a.toNat : Int) (b.toNat : Int) = ((a ||| b).toNat : Int) := by
  show IntKind.u64.wrap ((BitVec.ofInt 64 (a.toNat : Int) ||| BitVec.ofInt 64 (b.toNat : Int)).toNat : Int) = _
  rw [ofInt_bv, ofInt_bv]; exact wrap_bv _
theorem uandn (a b : W64) : bitsOf .andNot .u64 (a.toNat : Int) (b.toNat : Int) = ((a &&& ~~~b).toNat : Int) := by
  show IntKind.u64.wrap ((BitVec.ofInt 64 (a.toNat : Int) &&& ~~~BitVec.ofInt 64 (b.toNat : Int)).toNat : Int) = _
  rw [ofInt_bv, ofInt_bv]; exact wrap_bv _
def bitW (d : Nat) : W64 := 1#64 <<< d
theorem ushl (d : Nat) (h : d < 64) : arV .shl .u64 1 (d : Int) = ((bitW d).toNat : Int) := by
  simp only [arV, show IntKind.u64.bits = 64 from rfl, Int.toNat_natCast, Nat.min_eq_left (Nat.le_of_lt h), bitW]
  rw [wu64_eq, BitVec.toNat_shiftLeft]
  simp [Nat.shiftLeft_eq]
theorem ushr (a : W64) (d : Nat) (h : d < 64) : arV .shr .u64 (a.toNat : Int) (d : Int) = ((a >>> d).toNat : Int) := by
  simp only [arV, show IntKind.u64.bits = 64 from rfl, Int.toNat_natCast, Nat.min_eq_left (Nat.le_of_lt h)]
  rw [BitVec.toNat_ushiftRight, Nat.shiftRight_eq_div_pow]
  have h2 : (0 : Int) ≤ 2 ^ d := Int.le_of_lt (Int.pow_pos (by omega))
  rw [Int.fdiv_eq_ediv_of_nonneg _ h2]
  push_cast
  rfl
theorem bit_test (a : W64) (d : Nat) : ((((a >>> d) &&& 1#64).toNat : Int) == 1) = a.getLsbD d := by
  have h1 : ((a >>> d) &&& 1#64).toNat = (a.toNat >>> d) % 2 := by
    rw [BitVec.toNat_and, BitVec.toNat_ushiftRight]; simp [Nat.and_one_is_mod]
  rw [h1, Bool.eq_iff_iff]
  simp only [beq_iff_eq, BitVec.getLsbD, Nat.testBit, Nat.and_comm 1, Nat.and_one_is_mod]
  have : a.toNat >>> d % 2 < 2 := Nat.mod_lt _ (by omega)
  simp only [bne_iff_ne]
  omega
theorem bitW_get (d i : Nat) (hd : d < 64) : (bitW d).getLsbD i = decide (i = d) := by
  simp only [bitW, BitVec.getLsbD_shiftLeft]
  rw [Bool.eq_iff_iff]
  simp
  omega
/-! ### arrays of 64 -/
def upd {α : Type} (g : Nat → α) (x : Nat) (v : α) : Nat → α := fun i => if i = x then v else g i
abbrev arrL (f : Nat → AV) : List AV := (List.range 64).map f
theorem range_at {α : Type} {n i : Nat} (f : Nat → α) (h : i < n) : ((List.range n).map f)[i]? = some (f i) := by
  rw [List.getElem?_map, List.getElem?_range h]; rfl
theorem range_set {α β : Type} {n : Nat} (f : α → β) (g : Nat → α) (x : Nat) (v : α) : ((List.range n).map fun i => f (g i)).set x (f v) = (List.range n).map fun i => f (upd g x v i) := by
  apply List.ext_getElem?
  intro i
  rw [List.getElem?_set]
  by_cases h : i < n
  · rw [range_at _ h, List.length_map, List.length_range]
    by_cases hx : x = i
    · subst hx; simp [upd, h]
    · rw [if_neg hx, range_at _ h, upd, if_neg (fun e => hx e.symm)]
  · rw [List.getElem?_eq_none (by simp; omega), List.getElem?_eq_none (by simp; omega)]
    simp; omega
abbrev setL (g : Nat → W64) : List AV := arrL fun i => U64 (g i)
abbrev intL (g : Nat → Int) : List AV := arrL fun i => AI (g i)
theorem off1 (x : Nat) : 0 + (x : Int).toNat * 1 = x := by simp
theorem arr_len (f : Nat → AV) : (arrL f).length = 64 := by rw [List.length_map, List.length_range]
theorem set_one (g : Nat → W64) : oneA (setL g) = true := oneA_map fun _ => rfl
theorem int_one (g : Nat → Int) : oneA (intL g) = true := oneA_map fun _ => rfl
/-! ### networks -/
abbrev Procs := List (List (List Int))
abbrev rowI (l : List Int) : AV := .sl 1 (l.map AI) none
abbrev procA (p : List (List Int)) : AV := .sl 1 (p.map rowI) none
abbrev procsA (c : Procs) : AV := .sl 1 (c.map procA) none
abbrev netA (n : Int) (c : Procs) : AV := .ag [AI n, procsA c]
def sizeP (p : List (List Int)) : Nat := (p.map fun s => 1 + s.length).sum
def sizeN (c : Procs) : Nat := (c.map sizeP).sum
theorem sizeP_cons (s : List Int) (p : List (List Int)) : sizeP (s :: p) = 1 + s.length + sizeP p := by simp [sizeP]
theorem sizeN_cons (p : List (List Int)) (c : Procs) : sizeN (p :: c) = sizeP p + sizeN c := by simp [sizeN]
structure Small (c : Procs) : Prop where
  procs : c.length ≤ 20
  steps : ∀ p, p ∈ c → p.length ≤ 70
  size : sizeN c ≤ 200
theorem sizeP_mem {p : List (List Int)} {s : List Int} (h : s ∈ p) : s.length < sizeP p + 1 := by
  induction p with
  | nil => cases h
  | cons x p ih => rw [sizeP_cons]; rcases List.mem_cons.1 h with rfl | h; omega; have := ih h; omega
theorem sizeN_mem {c : Procs} {p : List (List Int)} (h : p ∈ c) : sizeP p ≤ sizeN c := by
  induction c with
  | nil => cases h
  | cons x c ih => rw [sizeN_cons]; rcases List.mem_cons.1 h with rfl | h; omega; have := ih h; omega
theorem Small.row {c : Procs} (h : Small c) {p : List (List Int)} {s : List Int} (hp : p ∈ c) (hs : s ∈ p) : s.length ≤ 200 := by
  have h1 := sizeP_mem hs
  have h2 := sizeN_mem hp
  have h3 := h.size
  omega
end Go.Proofs.YtgmeahcclogfmaaGreatDoor
/-!
  Chapter 23: large, Same.
-/
namespace Go.Proofs.YtgmeahcclogfmaaGreatDoor
open Go Go.Tp
set_option linter.unusedVariables false
set_option linter.unusedSimpArgs false
set_option maxRecDepth 100000
set_option maxHeartbeats 4000000
/-! ### large -/
structure ShortN (c : Procs) : Prop where
  procs : c.length ≤ 281474976710656
  steps : ∀ p, p ∈ c → p.length ≤ 281474976710656
  uses : ∀ p, p ∈ c → ∀ s, s ∈ p → s.length ≤ 281474976710656
def largeB (c : Procs) : Bool := decide (20 < c.length) || (c.any fun p => decide (70 < p.length)) || decide (200 < sizeN c)
def restB (c : Procs) (acc : Nat) : Bool := (c.any fun p => decide (70 < p.length)) || decide (200 < acc + sizeN c)
/-! ### Same -/
def sameL (a b : List Int) : Bool := decide (a = b)
theorem same_p (a b : List Int) (ha : a.length ≤ 281474976710656) : Pure Tryz.prog gs0 11 [rowI a, rowI b] (AB (sameL a b)) := by
  have hal : ((a.map AI).length : Int) = a.length := by rw [List.length_map]
  have hbl : ((b.map AI).length : Int) = b.length := by rw [List.length_map]
  by_cases hl : a.length = b.length
  case neg =>
    refine Pure.of (S := tt) (fn := Tryz.f11) (n := 26) tt_ok Tryz.func11 rfl rfl rfl rfl fun w0 h0 F hgs => ?_
    (repeat refine A.s rfl ?_)
    refine A.valE 10 rfl (x' := AB true) (ab_eq (by simp; omega)) ?_
    (repeat refine A.s rfl ?_); refine A.ret1 (Λ' := []) rfl rfl rfl (List.nil_sublist _) ⟨?_, rfl⟩; refine Sb.eq (ab_eq ?_); simp [sameL]; rintro rfl; exact hl rfl
  refine Pure.of (S := tt) (fn := Tryz.f11) (n := 26) tt_ok Tryz.func11 rfl rfl rfl rfl fun w0 h0 F hgs => ?_
  (repeat refine A.s rfl ?_)
  refine A.valE 10 rfl (x' := AB false) (ab_eq (by simp; omega)) ?_
  (repeat refine A.s rfl ?_)
  refine A.keep [0, 1, 5] rfl ?_
  refine A.loopP (ι := Nat) (fun i => (⟨[(0, rowI a), (1, rowI b), (5, AI (i : Nat))], []⟩, [])) (fun i => i ≤ a.length ∧ a.take i = b.take i) (fun i => a.length - i) 0 ⟨by omega, by simp⟩ rfl fun i hi ih => ?_
  (repeat refine A.s rfl ?_)
  refine A.cond rfl (fun hc => ?_) (fun hc => ?_)
  · simp at hc
    refine Exists.elim (at_exN (l := a) (i := i) hc) fun x hx => ?_
    refine Exists.elim (at_exN (l := b) (i := i) (by omega)) fun y hy => ?_
    (repeat refine A.s rfl ?_)
    refine A.draw 8 [0, 1, 2, 3, 4, 5, 6, 7] noPubs [] (by kernel_rfl) (by kernel_rfl) ?_
    (repeat refine WA.s rfl ?_)
    refine WA.x rfl (by omega) (map_at hx) rfl rfl ?_
    (repeat refine WA.s rfl ?_)
    refine WA.x rfl (by omega) (map_at hy) rfl rfl ?_
    (repeat refine WA.s rfl ?_)
    refine WA.nil (l := []) rfl ?_
    (repeat refine A.s rfl ?_)
    refine A.cond rfl (fun hc => ?_) (fun hc => ?_)
    · simp at hc
      (repeat refine A.s rfl ?_); refine A.ret1 (Λ' := []) rfl rfl rfl (List.nil_sublist _) ⟨?_, rfl⟩; refine Sb.eq (ab_eq ?_); simp [sameL]; rintro rfl
      rw [hx] at hy; injection hy with hy; exact hc hy
    · simp at hc
      (repeat refine A.s rfl ?_)
      refine A.valE 5 rfl (x' := AI ((i + 1 : Nat) : Int)) (inc_eq i (by omega)) ?_
      refine A.sub (by repeat (first | exact trivial | refine ⟨⟨_, rfl, .refl⟩, ?_⟩)) (ih (i + 1) ⟨by omega, ?_⟩ (by omega))
      rw [List.take_add_one, List.take_add_one, hi.2, hx, hy, hc]
  · simp at hc
    have : i = a.length := by omega
    subst this
    have h2 := hi.2
    rw [List.take_length, hl, List.take_length] at h2
    (repeat refine A.s rfl ?_); refine A.ret1 (Λ' := []) rfl rfl rfl (List.nil_sublist _) ⟨?_, rfl⟩; refine Sb.eq (ab_eq ?_); simp [sameL, h2]
end Go.Proofs.YtgmeahcclogfmaaGreatDoor
/-!
  Chapter 23: before.
-/
namespace Go.Proofs.YtgmeahcclogfmaaGreatDoor
open Go Go.Tp
set_option linter.unusedVariables false
set_option linter.unusedSimpArgs false
set_option maxRecDepth 100000
set_option maxHeartbeats 4000000
def InB (c : Procs) : Prop := ∀ p, p ∈ c → ∀ s, s ∈ p → ∀ x, x ∈ s → 0 ≤ x ∧ x < 64
def addD (x : Nat) (g : Nat → W64) (d : Int) : Nat → W64 := upd g x (g x ||| bitW d.toNat)
def addX (a : List Int) (g : Nat → W64) (x : Int) : Nat → W64 := a.foldl (addD x.toNat) g
def addS (g : Nat → W64) (ab : List Int × List Int) : Nat → W64 := ab.2.foldl (addX ab.1) g
def addP (g : Nat → W64) (p : List (List Int)) : Nat → W64 := (p.zip p.tail).foldl addS g
def beforeF (c : Procs) : Nat → W64 := c.foldl addP fun _ => 0
theorem zip_at {p : List (List Int)} {j : Nat} {a b : List Int} (ha : p[j]? = some a) (hb : p[j + 1]? = some b) : (p.zip p.tail)[j]? = some (a, b) := by
  rw [List.getElem?_zip_eq_some]; exact ⟨ha, by rw [List.getElem?_tail]; exact hb⟩
theorem nat_of {x : Int} (h : 0 ≤ x ∧ x < 64) : ∃ n : Nat, n < 64 ∧ x = n := ⟨x.toNat, by omega, by omega⟩
theorem before_p (n : Int) (c : Procs) (hs : ShortN c) (hb : InB c) : Pure Tryz.prog gs0 23 [netA n c] (.ag (setL (beforeF c))) := by
  have hcl : ((c.map procA).length : Int) = c.length := by rw [List.length_map]
  refine Pure.of (S := tt) (fn := Tryz.f23) (n := 53) tt_ok Tryz.func23 rfl rfl rfl rfl fun w0 h0 F hgs => ?_
  (repeat first|refine A.s rfl ?_|refine A.r rfl rfl ?_|refine A.b rfl fun bx=>?_)
  refine A.headEq (.ag (setL fun _ => 0)) (by kernel_rfl) ?_
  refine A.valE 12 rfl (x' := AI (c.length : Nat)) (ai_eq (by rw [List.length_map])) ?_
  refine A.keep [2, 11, 12, 13] rfl ?_
  refine A.loopP (ι := Nat × (Nat → W64)) (fun p => (⟨[(2, .v (.pointer (some ⟨_, 0, none⟩))), (11, procsA c), (12, AI (c.length : Nat)), (13, AI (p.1 : Nat))], []⟩, [.box _ (.ag (setL p.2)), .box _ (.ag [AI n, procsA c])]))
    (fun p => p.1 ≤ c.length ∧ (c.drop p.1).foldl addP p.2 = beforeF c) (fun p => c.length - p.1) (0, fun _ => 0) ⟨by omega, rfl⟩ rfl fun q hi ih => ?_
  obtain ⟨i, g0⟩ := q
  simp only at hi ih ⊢
  have hcb := hs.procs
  (repeat refine A.s rfl ?_)
  refine A.cond rfl (fun hc => ?_) (fun hc => ?_)
  · simp at hc
    refine Exists.elim (at_exN (l := c) (i := i) hc) fun p hp => ?_
    have hpm : p ∈ c := List.mem_of_getElem? hp
    have hpl : ((p.map rowI).length : Int) = p.length := by rw [List.length_map]
    have hpb := hs.steps p hpm
    (repeat refine A.s rfl ?_)
    refine A.x rfl (by omega) (map_at hp) rfl rfl ?_
    (repeat refine A.s rfl ?_)
    refine A.keep [2, 4, 5, 11, 12, 13] rfl ?_
    refine A.loopP (ι := Nat × (Nat → W64)) (fun q => (⟨[(2, .v (.pointer (some ⟨_, 0, none⟩))), (4, procA p), (5, AI ((q.1 + 1 : Nat) : Int)), (11, procsA c), (12, AI (c.length : Nat)), (13, AI (i : Nat))], []⟩, [.box _ (.ag (setL q.2)), .box _ (.ag [AI n, procsA c])]))
      (fun q => q.1 ≤ p.length ∧ ((p.zip p.tail).drop q.1).foldl addS q.2 = addP g0 p) (fun q => p.length - q.1) (0, g0) ⟨by omega, rfl⟩ rfl fun q hj jh => ?_
    obtain ⟨j, g1⟩ := q
    simp only at hj jh ⊢
    (repeat refine A.s rfl ?_)
    refine A.cond rfl (fun hc => ?_) (fun hc => ?_)
    · simp at hc
      refine Exists.elim (at_exN (l := p) (i := j + 1) (by omega)) fun b hb1 => ?_
      refine Exists.elim (at_exN (l := p) (i := j) (by omega)) fun a ha1 => ?_
      have hbm : b ∈ p := List.mem_of_getElem? hb1
      have ham : a ∈ p := List.mem_of_getElem? ha1
      have hab := hs.uses p hpm a ham
      have hbb := hs.uses p hpm b hbm
      have hz := zip_at ha1 hb1
      have h2 := hj.2
      rw [drop_at hz, List.foldl_cons] at h2
      (repeat refine A.s rfl ?_)
      refine A.x rfl (by omega) (map_at hb1) rfl rfl ?_
      (repeat refine A.s rfl ?_)
      refine A.valE 27 rfl (x' := AI (b.length : Nat)) (ai_eq (by rw [List.length_map])) ?_
      refine A.keep [2, 4, 5, 11, 12, 13, 26, 27, 28] rfl ?_
      refine A.loopP (ι := Nat × (Nat → W64)) (fun q => (⟨[(2, .v (.pointer (some ⟨_, 0, none⟩))), (4, procA p), (5, AI ((j + 1 : Nat) : Int)), (11, procsA c), (12, AI (c.length : Nat)), (13, AI (i : Nat)), (26, rowI b), (27, AI (b.length : Nat)), (28, AI (q.1 : Nat))], []⟩, [.box _ (.ag (setL q.2)), .box _ (.ag [AI n, procsA c])]))
        (fun q => q.1 ≤ b.length ∧ (b.drop q.1).foldl (addX a) q.2 = addS g1 (a, b)) (fun q => b.length - q.1) (0, g1) ⟨by omega, rfl⟩ rfl fun q hk kh => ?_
      obtain ⟨k1, g2⟩ := q
      simp only at hk kh ⊢
      (repeat refine A.s rfl ?_)
      refine A.cond rfl (fun hc => ?_) (fun hc => ?_)
      · simp at hc
        refine Exists.elim (at_exN (l := b) (i := k1) hc) fun x0 hx0 => ?_
        refine Exists.elim (nat_of (hb p hpm b hbm x0 (List.mem_of_getElem? hx0))) fun x hx1 => ?_
        have hx : b[k1]? = some (x : Int) := by rw [hx0, hx1.2]
        have h3 := hk.2
        rw [drop_at hx, List.foldl_cons] at h3
        (repeat refine A.s rfl ?_)
        refine A.x rfl (by omega) (map_at hx) rfl rfl ?_
        (repeat refine A.s rfl ?_)
        refine A.valE 34 rfl (x' := AI (j : Nat)) (ai_eq (by rw [w64_id (by unfold i64; omega)]; omega)) ?_
        skip
        refine A.x rfl (by omega) (map_at ha1) rfl rfl ?_
        (repeat refine A.s rfl ?_)
        refine A.valE 37 rfl (x' := AI (a.length : Nat)) (ai_eq (by rw [List.length_map])) ?_
        refine A.keep [2, 4, 5, 7, 11, 12, 13, 26, 27, 28, 36, 37, 38] rfl ?_
        refine A.loopP (ι := Nat × (Nat → W64)) (fun q => (⟨[(2, .v (.pointer (some ⟨_, 0, none⟩))), (4, procA p), (5, AI ((j + 1 : Nat) : Int)), (7, AI (x : Nat)), (11, procsA c), (12, AI (c.length : Nat)), (13, AI (i : Nat)), (26, rowI b), (27, AI (b.length : Nat)), (28, AI (k1 : Nat)), (36, rowI a), (37, AI (a.length : Nat)), (38, AI (q.1 : Nat))], []⟩, [.box _ (.ag (setL q.2)), .box _ (.ag [AI n, procsA c])]))
          (fun q => q.1 ≤ a.length ∧ (a.drop q.1).foldl (addD x) q.2 = addX a g2 x) (fun q => a.length - q.1) (0, g2) ⟨by omega, by simp [addX]⟩ rfl fun q hm mh => ?_
        obtain ⟨m1, g3⟩ := q
        simp only at hm mh ⊢
        (repeat refine A.s rfl ?_)
        refine A.cond rfl (fun hc => ?_) (fun hc => ?_)
        · simp at hc
          refine Exists.elim (at_exN (l := a) (i := m1) hc) fun d0 hd0 => ?_
          refine Exists.elim (nat_of (hb p hpm a ham d0 (List.mem_of_getElem? hd0))) fun d hd1 => ?_
          have hd : a[m1]? = some (d : Int) := by rw [hd0, hd1.2]
          have h4 := hm.2
          rw [drop_at hd, List.foldl_cons] at h4
          (repeat refine A.s rfl ?_)
          refine A.x rfl (by omega) (map_at hd) rfl rfl ?_
          (repeat refine A.s rfl ?_)
          refine A.draw 5 [0, 1, 2, 3, 4] noPubs [] (by kernel_rfl) (by kernel_rfl) ?_
          (repeat refine WA.s rfl ?_)
          refine WA.xa rfl (p := x) (by omega) (by omega) (off1 x) rfl ?_
          refine WA.ra rfl (range_at _ hx1.1) rfl ?_
          (repeat refine WA.s rfl ?_)
          refine WA.shift rfl rfl rfl rfl rfl rfl rfl (by omega) ?_
          refine WA.nil (l := []) rfl ?_
          refine A.valE 46 rfl (x' := U64 (bitW d)) (u64_eq (ushl d hd1.1)) ?_
          (repeat refine A.s rfl ?_)
          refine A.valE 47 rfl (x' := U64 (g3 x ||| bitW d)) (u64_eq (uor _ _)) ?_
          refine A.xa rfl (p := x) (by omega) (by omega) (off1 x) rfl ?_
          refine A.wa rfl rfl (by simp; omega) (range_set U64 g3 x (g3 x ||| bitW d)) ?_
          (repeat refine A.s rfl ?_)
          refine A.valE 38 rfl (x' := AI ((m1 + 1 : Nat) : Int)) (inc_eq m1 (by omega)) ?_
          refine A.sub (by repeat (first | exact trivial | refine ⟨⟨_, rfl, .refl⟩, ?_⟩)) (mh (m1 + 1, upd g3 x (g3 x ||| bitW d)) ⟨by omega, h4⟩ (by simp only; omega))
        · simp at hc
          have hml : m1 = a.length := by omega
          have h4 := hm.2
          rw [hml, List.drop_length, List.foldl_nil] at h4
          (repeat refine A.s rfl ?_)
          refine A.valE 28 rfl (x' := AI ((k1 + 1 : Nat) : Int)) (inc_eq k1 (by omega)) ?_
          refine A.sub (by repeat (first | exact trivial | refine ⟨⟨_, rfl, .refl⟩, ?_⟩)) (kh (k1 + 1, g3) ⟨by omega, by rw [h4]; exact h3⟩ (by simp only; omega))
      · simp at hc
        have hkl : k1 = b.length := by omega
        have h3 := hk.2
        rw [hkl, List.drop_length, List.foldl_nil] at h3
        (repeat refine A.s rfl ?_)
        refine A.valE 5 rfl (x' := AI ((j + 1 + 1 : Nat) : Int)) (inc_eq (j + 1) (by omega)) ?_
        refine A.sub (by repeat (first | exact trivial | refine ⟨⟨_, rfl, .refl⟩, ?_⟩)) (jh (j + 1, g2) ⟨by omega, by rw [h3]; exact h2⟩ (by simp only; omega))
    · simp at hc
      have hzl : (p.zip p.tail).drop j = [] := List.drop_eq_nil_of_le (by rw [List.length_zip, List.length_tail]; omega)
      have h2 := hj.2
      rw [hzl, List.foldl_nil] at h2
      have h1 := hi.2
      rw [drop_at hp, List.foldl_cons] at h1
      (repeat refine A.s rfl ?_)
      refine A.valE 13 rfl (x' := AI ((i + 1 : Nat) : Int)) (inc_eq i (by omega)) ?_
      refine A.sub (by repeat (first | exact trivial | refine ⟨⟨_, rfl, .refl⟩, ?_⟩)) (ih (i + 1, g1) ⟨by omega, by rw [h2]; exact h1⟩ (by simp only; omega))
  · simp at hc
    have hil : i = c.length := by omega
    have h1 := hi.2
    rw [hil, List.drop_length, List.foldl_nil] at h1
    (repeat refine A.s rfl ?_)
    refine A.la rfl (arr_len _) rfl ?_
    refine A.wl rfl (set_one _) (arr_len _) (arr_len _) ?_
    (repeat refine A.s rfl ?_)
    refine A.retC (Λ' := []) rfl rfl rfl rfl (ldA_all rfl (arr_len _)) (List.nil_sublist _) ⟨?_, rfl⟩
    rw [h1]; exact .refl
end Go.Proofs.YtgmeahcclogfmaaGreatDoor
/-!
  Chapter 23: far.
-/
namespace Go.Proofs.YtgmeahcclogfmaaGreatDoor
open Go Go.Tp
set_option linter.unusedVariables false
set_option linter.unusedSimpArgs false
set_option maxRecDepth 100000
set_option maxHeartbeats 4000000
/-! ### sets, channel by channel -/
def orB (P : Nat → Bool) (m : Nat) : W64 := (List.range m).foldl (fun w x => if P x then w ||| bitW x else w) 0
theorem orB_succ (P : Nat → Bool) (m : Nat) : orB P (m + 1) = if P m then orB P m ||| bitW m else orB P m := by
  rw [orB, List.range_succ, List.foldl_append]; rfl
theorem orB_get (P : Nat → Bool) (m : Nat) (hm : m ≤ 64) (x : Nat) : (orB P m).getLsbD x = (decide (x < m) && P x) := by
  induction m with
  | zero => simp [orB]
  | succ m ih =>
    have ih := ih (by omega)
    rw [orB_succ]
    by_cases hx : x = m
    · subst hx
      cases hp : P x
      · simp [ih, hp]
      · simp [BitVec.getLsbD_or, ih, hp, bitW_get _ _ (show x < 64 by omega)]
    · have h1 : decide (x < m + 1) = decide (x < m) := by rw [Bool.eq_iff_iff]; simp; omega
      cases hp : P m
      · simp [ih, h1]
      · simp [BitVec.getLsbD_or, ih, h1, bitW_get _ _ (show m < 64 by omega), hx]
theorem bv_zero (w : W64) : w = 0 ↔ ∀ x, x < 64 → w.getLsbD x = false := by
  constructor
  · rintro rfl x _; simp
  · intro h; apply BitVec.eq_of_getLsbD_eq; intro i hi; simp [h i hi]
def cutU (P : Nat → Bool) (k : Int) (n : Nat → Int) (m : Nat) : Nat → Int := fun y => if decide (y < m) && P y then k else n y
theorem cutU_zero (P : Nat → Bool) (k : Int) (n : Nat → Int) : cutU P k n 0 = n := by funext y; simp [cutU]
theorem cutU_at (P : Nat → Bool) (k : Int) (n : Nat → Int) (m : Nat) : cutU P k n m m = n m := by simp [cutU]
theorem cutU_set {P : Nat → Bool} {k : Int} {n : Nat → Int} {m : Nat} (h : P m = true) : upd (cutU P k n m) m k = cutU P k n (m + 1) := by
  funext y
  simp only [upd, cutU]
  by_cases hy : y = m
  · subst hy; simp [h]
  · have h1 : decide (y < m + 1) = decide (y < m) := by rw [Bool.eq_iff_iff]; simp; omega
    rw [if_neg hy, h1]
theorem cutU_not {P : Nat → Bool} {k : Int} {n : Nat → Int} {m : Nat} (h : P m = false) : cutU P k n m = cutU P k n (m + 1) := by
  funext y
  simp only [cutU]
  by_cases hy : y = m
  · subst hy; simp [h]
  · have h1 : decide (y < m + 1) = decide (y < m) := by rw [Bool.eq_iff_iff]; simp; omega
    rw [h1]
/-! ### far -/
def newB (s : Nat → W64) (w : W64) (n : Nat → Int) (x : Nat) : Bool := n x == 0 && (s x &&& w) != 0
def farR (s : Nat → W64) : Nat → (Nat → Int) → W64 → Int → Nat → Int
  | 0, n, _, _ => n
  | f + 1, n, w, k => if w = 0 then n else farR s f (cutU (newB s w n) k n 64) (orB (newB s w n) 64) (k + 1)
def farF (s : Nat → W64) (to : Nat) : Nat → Int := farR s 66 (fun _ => 0) (bitW to) 1
def zeros (n : Nat → Int) : Nat := (List.range 64).countP fun x => n x == 0
theorem farR_zero (s : Nat → W64) (f : Nat) (n : Nat → Int) (k : Int) : farR s f n 0 k = n := by cases f <;> simp [farR]
theorem countP_lt {α : Type} {p q : α → Bool} {l : List α} (h : ∀ x, x ∈ l → q x = true → p x = true) {x : α} (hx : x ∈ l) (h1 : p x = true) (h2 : q x = false) : l.countP q < l.countP p := by
  induction l with
  | nil => cases hx
  | cons y l ih =>
    have hle : l.countP q ≤ l.countP p := List.countP_mono_left fun z hz => h z (List.mem_cons_of_mem _ hz)
    rw [List.countP_cons, List.countP_cons]
    rcases List.mem_cons.1 hx with rfl | hx
    · rw [h1, h2]; simp; omega
    · have := ih (fun z hz => h z (List.mem_cons_of_mem _ hz)) hx
      have h3 := h y (List.mem_cons_self ..)
      cases hq : q y
      · simp; split <;> omega
      · rw [h3 hq]; simp; omega
theorem zeros_lt {s : Nat → W64} {w : W64} {n : Nat → Int} {k : Int} (hk : 1 ≤ k) (h : orB (newB s w n) 64 ≠ 0) : zeros (cutU (newB s w n) k n 64) < zeros n := by
  rw [Ne, bv_zero] at h
  simp only [orB_get _ 64 (Nat.le_refl _)] at h
  have : ∃ x, x < 64 ∧ newB s w n x = true := by
    apply Classical.byContradiction
    intro hn
    apply h
    intro x hx
    cases hp : newB s w n x
    · simp
    · exact (hn ⟨x, hx, hp⟩).elim
  obtain ⟨x, hx, hp⟩ := this
  refine countP_lt (x := x) (fun y hy hq => ?_) (List.mem_range.2 hx) ?_ ?_
  · have hy := List.mem_range.1 hy
    simp only [cutU, hy, decide_true, Bool.true_and] at hq
    split at hq
    · simp at hq; omega
    · exact hq
  · simp only [newB, Bool.and_eq_true] at hp; exact hp.1
  · simp only [cutU, hx, decide_true, Bool.true_and, hp, if_true]; simp; omega
theorem zeros_le (n : Nat → Int) : zeros n ≤ 64 := by
  have := List.countP_le_length (p := fun x => n x == 0) (l := List.range 64)
  rw [List.length_range] at this; exact this
theorem far_p (s : Nat → W64) (to : Nat) (ht : to < 64) : Pure Tryz.prog gs0 24 [.ag (setL s), AI (to : Nat)] (.ag (intL (farF s to))) := by
  refine Pure.of (S := tt) (fn := Tryz.f24) (n := 44) tt_ok Tryz.func24 rfl rfl rfl rfl fun w0 h0 F hgs => ?_
  (repeat refine A.s rfl ?_)
  refine A.bl rfl (set_one s) fun b0 => ?_
  (repeat refine A.s rfl ?_)
  refine A.b rfl fun b1 => ?_
  refine A.headEq (.ag (intL fun _ => 0)) (by kernel_rfl) ?_
  (repeat refine A.s rfl ?_)
  refine A.shift rfl rfl rfl rfl rfl rfl (by omega) ?_
  (repeat refine A.s rfl ?_)
  refine A.valE 6 rfl (x' := U64 (bitW to)) (u64_eq (ushl to ht)) ?_
  skip
  refine A.keep [2, 4, 5, 6, 7] rfl ?_
  refine A.valE 5 rfl (x' := U64 0) rfl ?_
  refine A.keep [2, 4, 5, 6, 7] rfl ?_
  refine A.loopP (ι := (Nat → Int) × W64 × W64 × Nat × Nat) (fun p => (⟨[(2, .v (.pointer (some ⟨b0, 0, none⟩))), (4, .v (.pointer (some ⟨b1, 0, none⟩))), (5, U64 p.2.1), (6, U64 p.2.2.1), (7, AI (p.2.2.2.1 : Nat))], []⟩, [.box b1 (.ag (intL p.1)), .box b0 (.ag (setL s))]))
    (fun p => farR s p.2.2.2.2 p.1 p.2.2.1 (p.2.2.2.1 : Nat) = farF s to ∧ (p.2.2.1 ≠ 0 → zeros p.1 + 1 ≤ p.2.2.2.2) ∧ p.2.2.2.2 + p.2.2.2.1 = 67 ∧ 1 ≤ p.2.2.2.1) (fun p => p.2.2.2.2) (fun _ => 0, 0, bitW to, 1, 66) ⟨rfl, fun _ => by have := zeros_le fun _ => 0; simp only; omega, rfl, by simp⟩ rfl fun q hi ih => ?_
  obtain ⟨n, rch, w, k, f⟩ := q
  simp only at hi ih ⊢
  (repeat refine A.s rfl ?_)
  by_cases hw : w = 0
  · refine A.valE 13 rfl (x' := AB false) (ab_eq (by subst hw; rfl)) ?_
    (repeat refine A.s rfl ?_)
    refine A.la rfl (arr_len _) rfl ?_
    refine A.wl rfl (int_one _) (arr_len _) (arr_len _) ?_
    (repeat refine A.s rfl ?_)
    refine A.retC (Λ' := []) rfl rfl rfl rfl (ldA_all rfl (arr_len _)) (List.nil_sublist _) ⟨?_, rfl⟩
    have h1 := hi.1
    rw [hw, farR_zero] at h1
    rw [h1]; exact .refl
  refine A.valE 13 rfl (x' := AB true) (ab_eq (by
    have h1 : w.toNat ≠ 0 := fun h => hw (BitVec.eq_of_toNat_eq (by rw [h]; rfl))
    simp; omega)) ?_
  have hz := hi.2.1 hw
  obtain ⟨f', rfl⟩ : ∃ f', f = f' + 1 := ⟨f - 1, by omega⟩
  have h1 := hi.1
  rw [farR, if_neg hw] at h1
  (repeat refine A.s rfl ?_)
  refine A.valE 8 rfl (x' := U64 0) rfl ?_
  refine A.keep [2, 4, 5, 6, 7, 8, 16] rfl ?_
  refine A.loopP (ι := Nat) (fun x => (⟨[(2, .v (.pointer (some ⟨b0, 0, none⟩))), (4, .v (.pointer (some ⟨b1, 0, none⟩))), (5, U64 rch), (6, U64 w), (7, AI (k : Nat)), (8, U64 (orB (newB s w n) x)), (16, AI (x : Nat))], []⟩, [.box b1 (.ag (intL (cutU (newB s w n) (k : Nat) n x))), .box b0 (.ag (setL s))]))
    (fun x => x ≤ 64) (fun x => 64 - x) 0 (by omega) (by rw [cutU_zero]; rfl) fun x hx xh => ?_
  (repeat refine A.s rfl ?_)
  refine A.cond rfl (fun hc => ?_) (fun hc => ?_)
  · simp at hc
    have hx64 : x < 64 := by omega
    (repeat refine A.s rfl ?_)
    refine A.xa rfl (p := x) (by omega) (by omega) (off1 x) rfl ?_
    refine A.ra rfl (range_at _ hx64) rfl ?_
    (repeat first|refine A.s rfl ?_|refine A.step rfl ?_)
    refine A.valE 23 rfl (x' := AB (n x == 0)) (ab_eq (by rw [cutU_at])) ?_
    ((fail_if_success (refine A.lit? rfl ?_)); refine A.gS rfl (fun hc => ?_) (fun hc => ?_))
    · skip
      refine A.xa rfl (p := x) (by omega) (by omega) (off1 x) rfl ?_
      refine A.ra rfl (range_at _ hx64) rfl ?_
      (repeat refine A.s rfl ?_)
      refine A.valE 30 rfl (x' := AB (newB s w n x)) (ab_eq ?_) ?_
      · rw [uand, newB, hc, Bool.eq_iff_iff]
        simp only [Bool.true_and, bne_iff_ne, ne_eq, Bool.cond_true]
        apply not_congr
        constructor
        · intro h; exact BitVec.eq_of_toNat_eq (by have h : ((s x &&& w).toNat : Int) = 0 := h; rw [show (0 : W64).toNat = 0 from rfl]; omega)
        · intro h; rw [h]; rfl
      cases hp : newB s w n x with
      | true =>
        (repeat refine A.s rfl ?_)
        refine A.xa rfl (p := x) (by omega) (by omega) (off1 x) rfl ?_
        refine A.wa rfl rfl (by simp; omega) (range_set AI _ x (k : Nat)) ?_
        (repeat refine A.s rfl ?_)
        refine A.shift rfl rfl rfl rfl rfl rfl (by omega) ?_
        (repeat refine A.s rfl ?_)
        refine A.valE 8 rfl (x' := U64 (orB (newB s w n) (x + 1))) (u64_eq ?_) ?_
        · rw [ushl x hx64, uor, orB_succ, hp]; rfl
        refine A.valE 16 rfl (x' := AI ((x + 1 : Nat) : Int)) (inc_eq x (by omega)) ?_
        refine A.headEq (.ag (intL (cutU (newB s w n) (k : Nat) n (x + 1)))) (by rw [cutU_set hp]) ?_
        refine A.sub (by repeat (first | exact trivial | refine ⟨⟨_, rfl, .refl⟩, ?_⟩)) (xh (x + 1) (by omega) (by omega))
      | false =>
        (repeat refine A.s rfl ?_)
        refine A.valE 8 rfl (x' := U64 (orB (newB s w n) (x + 1))) (by rw [orB_succ, hp]; rfl) ?_
        refine A.valE 16 rfl (x' := AI ((x + 1 : Nat) : Int)) (inc_eq x (by omega)) ?_
        refine A.headEq (.ag (intL (cutU (newB s w n) (k : Nat) n (x + 1)))) (by rw [← cutU_not hp]) ?_
        refine A.sub (by repeat (first | exact trivial | refine ⟨⟨_, rfl, .refl⟩, ?_⟩)) (xh (x + 1) (by omega) (by omega))
    · have hp : newB s w n x = false := by rw [newB, hc]; rfl
      (repeat refine A.s rfl ?_)
      refine A.valE 8 rfl (x' := U64 (orB (newB s w n) (x + 1))) (by rw [orB_succ, hp]; rfl) ?_
      refine A.valE 16 rfl (x' := AI ((x + 1 : Nat) : Int)) (inc_eq x (by omega)) ?_
      refine A.headEq (.ag (intL (cutU (newB s w n) (k : Nat) n (x + 1)))) (by rw [← cutU_not hp]) ?_
      refine A.sub (by repeat (first | exact trivial | refine ⟨⟨_, rfl, .refl⟩, ?_⟩)) (xh (x + 1) (by omega) (by omega))
  · simp at hc
    have hx64 : x = 64 := by omega
    subst hx64
    (repeat refine A.s rfl ?_)
    refine A.valE 5 rfl (x' := U64 (rch ||| orB (newB s w n) 64)) (u64_eq (uor _ _)) ?_
    refine A.valE 7 rfl (x' := AI ((k + 1 : Nat) : Int)) (inc_eq k (by omega)) ?_
    refine A.sub (by repeat (first | exact trivial | refine ⟨⟨_, rfl, .refl⟩, ?_⟩)) (ih (cutU (newB s w n) (k : Nat) n 64, rch ||| orB (newB s w n) 64, orB (newB s w n) 64, k + 1, f') ⟨h1, fun h => ?_, by simp only; omega, by simp⟩ (by simp only; omega))
    have := zeros_lt (k := (k : Int)) (by omega) h
    simp only
    omega
end Go.Proofs.YtgmeahcclogfmaaGreatDoor
/-!
  Chapter 23: May.
-/
namespace Go.Proofs.YtgmeahcclogfmaaGreatDoor
open Go Go.Tp
set_option linter.unusedVariables false
set_option linter.unusedSimpArgs false
set_option maxRecDepth 100000
set_option maxHeartbeats 4000000
theorem idxI_p (f : FuncId) (c : List AV) (p : Int → Bool) (hcb : ∀ x, Pure Tryz.prog gs0 f (AI x :: c) (AB (p x))) (l : List Int) (hb : l.length ≤ 281474976710656) :
    Pure Tryz.prog gs0 45 [rowI l, .fn f [] c] (AI (idxF p l 0)) := by
  refine Pure.of (S := tt) (fn := Tryz.f45) (n := 19) tt_ok Tryz.func45 rfl rfl rfl rfl fun w0 h0 F hgs => ?_
  (repeat refine A.s rfl ?_)
  refine A.valE 7 rfl (x' := AI (l.length : Nat)) (ai_eq (by rw [List.length_map])) ?_
  refine A.keep [0, 1, 7, 8] rfl ?_
  refine A.loopP (ι := Nat) (fun i => (⟨[(0, rowI l), (1, .fn f [] c), (7, AI (l.length : Nat)), (8, AI (i : Int))], []⟩, [])) (fun i => i ≤ l.length ∧ idxF p l 0 = idxF p (l.drop i) i) (fun i => l.length - i) 0 ⟨by omega, rfl⟩ rfl fun i hi ih => ?_
  (repeat refine A.s rfl ?_)
  refine A.cond rfl (fun hc => ?_) (fun hc => ?_)
  · simp at hc
    refine Exists.elim (at_exN (l := l) (i := i) hc) fun x hx => ?_
    (repeat refine A.s rfl ?_)
    refine A.x rfl (by omega) (map_at hx) rfl rfl ?_
    (repeat refine A.s rfl ?_)
    refine A.c rfl (hcb x) SbL.refl ?_
    have h1 := hi.2
    rw [drop_at hx, idxF] at h1
    cases hp : p x with
    | true =>
      rw [hp] at h1
      (repeat refine A.s rfl ?_); refine A.ret1 (Λ' := []) rfl rfl rfl (List.nil_sublist _) ⟨?_, rfl⟩; rw [h1]; exact .refl
    | false =>
      rw [hp] at h1
      (repeat refine A.s rfl ?_)
      refine A.valE 8 rfl (x' := AI ((i + 1 : Nat) : Int)) (inc_eq i (by omega)) ?_
      refine A.sub (by repeat (first | exact trivial | refine ⟨⟨_, rfl, .refl⟩, ?_⟩)) (ih (i + 1) ⟨by omega, h1⟩ (by omega))
  · simp at hc
    have : i = l.length := by omega
    subst this
    (repeat refine A.s rfl ?_); refine A.ret1 (Λ' := []) rfl rfl rfl (List.nil_sublist _) ⟨?_, rfl⟩; rw [hi.2, List.drop_length]; exact .refl
theorem hasI_p (f : FuncId) (c : List AV) (p : Int → Bool) (hcb : ∀ x, Pure Tryz.prog gs0 f (AI x :: c) (AB (p x))) (l : List Int) (hb : l.length ≤ 281474976710656) :
    Pure Tryz.prog gs0 33 [rowI l, .fn f [] c] (AB (l.any p)) := by
  refine Pure.of (S := tt) (fn := Tryz.f33) (n := 9) tt_ok Tryz.func33 rfl rfl rfl rfl fun w0 h0 F hgs => ?_
  (repeat refine A.s rfl ?_)
  refine A.c rfl (idxI_p f c p hcb l hb) .refl ?_
  (repeat refine A.s rfl ?_); refine A.ret1 (Λ' := []) rfl rfl rfl (List.nil_sublist _) ⟨?_, rfl⟩; refine Sb.eq (ab_eq ?_); exact idxF_any p l 0
theorem bit1 (a : W64) (x : Nat) : (bitsOf .and .u64 ((a >>> x).toNat : Int) 1 == 1) = a.getLsbD x := by
  have := uand (a >>> x) 1#64
  rw [show ((1#64 : W64).toNat : Int) = 1 from rfl] at this
  rw [this, bit_test]
def oddUse (x : Int) : Bool := x != 0 && x != 2
theorem nmay1_p (x : Int) : Pure Tryz.prog gs0 34 [AI x] (AB (oddUse x)) := by
  refine Pure.of (S := tt) (fn := Tryz.f34) (n := 9) tt_ok Tryz.func34 rfl rfl rfl rfl fun w0 h0 F hgs => ?_
  (repeat refine A.s rfl ?_)
  ((fail_if_success (refine A.lit? rfl ?_)); refine A.gS rfl (fun hc => ?_) (fun hc => ?_))
  · (repeat refine A.s rfl ?_); refine A.ret1 (Λ' := []) rfl rfl rfl (List.nil_sublist _) ⟨?_, rfl⟩; refine Sb.eq (ab_eq ?_); rw [oddUse, hc]; rfl
  · (repeat refine A.s rfl ?_); refine A.ret1 (Λ' := []) rfl rfl rfl (List.nil_sublist _) ⟨?_, rfl⟩; refine Sb.eq (ab_eq ?_); rw [oddUse, hc]; rfl
/-! ### the model -/
def chk (n : Int) (s : W64 × (Nat → Int)) (x : Int) : Option (W64 × (Nat → Int)) :=
  if x < 0 ∨ n ≤ x ∨ s.1.getLsbD x.toNat = true then none else some (s.1 ||| bitW x.toNat, upd s.2 x.toNat (w64 (s.2 x.toNat + 1)))
def stepM (n : Int) (s : W64 × (Nat → Int)) (st : List Int) : Option (W64 × (Nat → Int)) := if st = [] then none else st.foldlM (chk n) s
def procM (n : Int) (u : Nat → Int) (p : List (List Int)) : Option (Nat → Int) := if p = [] then none else (p.foldlM (stepM n) (0, u)).map (·.2)
def mayG (n : Int) (c : Procs) : Bool := decide (0 ≤ n) && decide (n ≤ 64) && decide (1 ≤ c.length) && decide (c.length ≤ 16)
def mayU (n : Int) (c : Procs) : Option (Nat → Int) := c.foldlM (procM n) fun _ => 0
def evenU : Option (Nat → Int) → Bool
  | none => false
  | some u => !((List.range 64).map u).any oddUse
def nmayB (n : Int) (c : Procs) : Bool := mayG n c && evenU (mayU n c)
theorem foldM_at {α β : Type} {f : β → α → Option β} {l : List α} {i : Nat} {x : α} (h : l[i]? = some x) (s : β) : (l.drop i).foldlM f s = (f s x).bind fun s' => (l.drop (i + 1)).foldlM f s' := by
  rw [drop_at h, List.foldlM_cons]; rfl
theorem foldM_end {α β : Type} {f : β → α → Option β} {l : List α} (s : β) : (l.drop l.length).foldlM f s = some s := by
  rw [List.drop_length, List.foldlM_nil]; rfl
theorem none_may {n : Int} {c : Procs} (h : mayU n c = none) : nmayB n c = false := by rw [nmayB, h]; simp [evenU]
theorem nmay_p (n : Int) (c : Procs) (hs : ShortN c) : Pure Tryz.prog gs0 16 [netA n c] (AB (nmayB n c)) := by
  have hcl : ((c.map procA).length : Int) = c.length := by rw [List.length_map]
  refine Pure.of (S := tt) (fn := Tryz.f16) (n := 86) tt_ok Tryz.func16 rfl rfl rfl rfl fun w0 h0 F hgs => ?_
  (repeat first|refine A.s rfl ?_|refine A.r rfl rfl ?_|refine A.b rfl fun bx=>?_)
  ((fail_if_success (refine A.lit? rfl ?_)); refine A.gS rfl (fun hc => ?_) (fun hc => ?_))
  · simp at hc; (repeat refine A.s rfl ?_); refine A.ret1 (Λ' := []) rfl rfl rfl (List.nil_sublist _) ⟨?_, rfl⟩; refine Sb.eq (ab_eq ?_); rw [nmayB, mayG, show decide (0 ≤ n) = false by simp; omega]; rfl
  simp at hc
  have g1 := hc
  (repeat first|refine A.s rfl ?_|refine A.r rfl rfl ?_)
  ((fail_if_success (refine A.lit? rfl ?_)); refine A.gS rfl (fun hc => ?_) (fun hc => ?_))
  · simp at hc; (repeat refine A.s rfl ?_); refine A.ret1 (Λ' := []) rfl rfl rfl (List.nil_sublist _) ⟨?_, rfl⟩; refine Sb.eq (ab_eq ?_); rw [nmayB, mayG, show decide (n ≤ 64) = false by simp; omega]; simp
  simp at hc
  have g2 := hc
  (repeat first|refine A.s rfl ?_|refine A.r rfl rfl ?_)
  ((fail_if_success (refine A.lit? rfl ?_)); refine A.gS rfl (fun hc => ?_) (fun hc => ?_))
  · simp at hc; (repeat refine A.s rfl ?_); refine A.ret1 (Λ' := []) rfl rfl rfl (List.nil_sublist _) ⟨?_, rfl⟩; refine Sb.eq (ab_eq ?_); rw [nmayB, mayG, show decide (1 ≤ c.length) = false from decide_eq_false (by omega)]; simp
  simp at hc
  have g3 : 1 ≤ c.length := by omega
  (repeat first|refine A.s rfl ?_|refine A.r rfl rfl ?_)
  refine A.cond rfl (fun hc => ?_) (fun hc => ?_)
  · simp at hc; (repeat refine A.s rfl ?_); refine A.ret1 (Λ' := []) rfl rfl rfl (List.nil_sublist _) ⟨?_, rfl⟩; refine Sb.eq (ab_eq ?_); rw [nmayB, mayG, show decide (c.length ≤ 16) = false by simp; omega]; simp
  simp at hc
  have g4 := hc
  have hg : mayG n c = true := by simp only [mayG, Bool.and_eq_true, decide_eq_true_eq]; omega
  (repeat refine A.s rfl ?_)
  refine A.b rfl fun b1 => ?_
  refine A.headEq (.ag (intL fun _ => 0)) (by kernel_rfl) ?_
  (repeat first|refine A.s rfl ?_|refine A.r rfl rfl ?_)
  refine A.valE 33 rfl (x' := AI (c.length : Nat)) (ai_eq (by rw [List.length_map])) ?_
  refine A.keep [1, 3, 32, 33, 34] rfl ?_
  refine A.loopP (ι := Nat × (Nat → Int)) (fun p => (⟨[(1, .v (.pointer (some ⟨_, 0, none⟩))), (3, .v (.pointer (some ⟨b1, 0, none⟩))), (32, procsA c), (33, AI (c.length : Nat)), (34, AI (p.1 : Nat))], []⟩, [.box b1 (.ag (intL p.2)), .box _ (.ag [AI n, procsA c])]))
    (fun p => p.1 ≤ c.length ∧ (c.drop p.1).foldlM (procM n) p.2 = mayU n c) (fun p => c.length - p.1) (0, fun _ => 0) ⟨by omega, rfl⟩ rfl fun q hi ih => ?_
  obtain ⟨i, u⟩ := q
  simp only at hi ih ⊢
  (repeat refine A.s rfl ?_)
  refine A.cond rfl (fun hc => ?_) (fun hc => ?_)
  · simp at hc
    refine Exists.elim (at_exN (l := c) (i := i) hc) fun p hp => ?_
    have hpm : p ∈ c := List.mem_of_getElem? hp
    have hpl : ((p.map rowI).length : Int) = p.length := by rw [List.length_map]
    have hpb := hs.steps p hpm
    have h1 := hi.2
    rw [foldM_at hp] at h1
    (repeat refine A.s rfl ?_)
    refine A.x rfl (by omega) (map_at hp) rfl rfl ?_
    (repeat refine A.s rfl ?_)
    refine A.cond rfl (fun hc => ?_) (fun hc => ?_)
    · simp at hc
      have hno : mayU n c = none := by rw [← h1, procM, if_pos hc]; rfl
      ((repeat refine A.s rfl ?_); refine A.ret1 (Λ' := []) rfl rfl rfl (List.nil_sublist _) ⟨?_, rfl⟩; exact Sb.eq (ab_eq (none_may hno).symm))
    simp at hc
    rw [procM, if_neg hc] at h1
    (repeat refine A.s rfl ?_)
    refine A.valE 6 rfl (x' := U64 0) rfl ?_
    refine A.valE 42 rfl (x' := AI (p.length : Nat)) (ai_eq (by rw [List.length_map])) ?_
    refine A.keep [1, 3, 6, 32, 33, 34, 41, 42, 43] rfl ?_
    refine A.loopP (ι := Nat × (W64 × (Nat → Int))) (fun q => (⟨[(1, .v (.pointer (some ⟨_, 0, none⟩))), (3, .v (.pointer (some ⟨b1, 0, none⟩))), (6, U64 q.2.1), (32, procsA c), (33, AI (c.length : Nat)), (34, AI (i : Nat)), (41, procA p), (42, AI (p.length : Nat)), (43, AI (q.1 : Nat))], []⟩, [.box b1 (.ag (intL q.2.2)), .box _ (.ag [AI n, procsA c])]))
      (fun q => q.1 ≤ p.length ∧ (p.drop q.1).foldlM (stepM n) q.2 = p.foldlM (stepM n) (0, u)) (fun q => p.length - q.1) (0, (0, u)) ⟨by omega, rfl⟩ rfl fun q hj jh => ?_
    obtain ⟨j, met, u1⟩ := q
    simp only at hj jh ⊢
    (repeat refine A.s rfl ?_)
    refine A.cond rfl (fun hc => ?_) (fun hc => ?_)
    · simp at hc
      refine Exists.elim (at_exN (l := p) (i := j) hc) fun st hst => ?_
      have hsm : st ∈ p := List.mem_of_getElem? hst
      have hsb := hs.uses p hpm st hsm
      have h2 := hj.2
      rw [foldM_at hst] at h2
      (repeat refine A.s rfl ?_)
      refine A.x rfl (by omega) (map_at hst) rfl rfl ?_
      (repeat refine A.s rfl ?_)
      refine A.cond rfl (fun hc => ?_) (fun hc => ?_)
      · simp at hc
        have hno : mayU n c = none := by rw [← h1, ← h2, stepM, if_pos hc]; rfl
        ((repeat refine A.s rfl ?_); refine A.ret1 (Λ' := []) rfl rfl rfl (List.nil_sublist _) ⟨?_, rfl⟩; exact Sb.eq (ab_eq (none_may hno).symm))
      simp at hc
      rw [stepM, if_neg hc] at h2
      (repeat refine A.s rfl ?_)
      refine A.valE 51 rfl (x' := AI (st.length : Nat)) (ai_eq (by rw [List.length_map])) ?_
      refine A.keep [1, 3, 6, 32, 33, 34, 41, 42, 43, 50, 51, 52] rfl ?_
      refine A.loopP (ι := Nat × (W64 × (Nat → Int))) (fun q => (⟨[(1, .v (.pointer (some ⟨_, 0, none⟩))), (3, .v (.pointer (some ⟨b1, 0, none⟩))), (6, U64 q.2.1), (32, procsA c), (33, AI (c.length : Nat)), (34, AI (i : Nat)), (41, procA p), (42, AI (p.length : Nat)), (43, AI (j : Nat)), (50, rowI st), (51, AI (st.length : Nat)), (52, AI (q.1 : Nat))], []⟩, [.box b1 (.ag (intL q.2.2)), .box _ (.ag [AI n, procsA c])]))
        (fun q => q.1 ≤ st.length ∧ (st.drop q.1).foldlM (chk n) q.2 = st.foldlM (chk n) (met, u1)) (fun q => st.length - q.1) (0, (met, u1)) ⟨by omega, rfl⟩ rfl fun q hk kh => ?_
      obtain ⟨k1, met2, u2⟩ := q
      simp only at hk kh ⊢
      (repeat refine A.s rfl ?_)
      refine A.cond rfl (fun hc => ?_) (fun hc => ?_)
      · simp at hc
        refine Exists.elim (at_exN (l := st) (i := k1) hc) fun x0 hx0 => ?_
        have h3 := hk.2
        rw [foldM_at hx0] at h3
        (repeat refine A.s rfl ?_)
        refine A.x rfl (by omega) (map_at hx0) rfl rfl ?_
        (repeat refine A.s rfl ?_)
        ((fail_if_success (refine A.lit? rfl ?_)); refine A.gS rfl (fun hc => ?_) (fun hc => ?_))
        · simp at hc
          have hno : mayU n c = none := by rw [← h1, ← h2, ← h3, chk, if_pos (.inl hc)]; rfl
          ((repeat refine A.s rfl ?_); refine A.ret1 (Λ' := []) rfl rfl rfl (List.nil_sublist _) ⟨?_, rfl⟩; exact Sb.eq (ab_eq (none_may hno).symm))
        simp at hc
        have x1 := hc
        (repeat first|refine A.s rfl ?_|refine A.r rfl rfl ?_)
        ((fail_if_success (refine A.lit? rfl ?_)); refine A.gS rfl (fun hc => ?_) (fun hc => ?_))
        · simp at hc
          have hno : mayU n c = none := by rw [← h1, ← h2, ← h3, chk, if_pos (.inr (.inl hc))]; rfl
          ((repeat refine A.s rfl ?_); refine A.ret1 (Λ' := []) rfl rfl rfl (List.nil_sublist _) ⟨?_, rfl⟩; exact Sb.eq (ab_eq (none_may hno).symm))
        simp at hc
        refine Exists.elim (nat_of (x := x0) ⟨x1, by omega⟩) fun x hx1 => ?_
        obtain ⟨hx64, rfl⟩ := hx1
        (repeat refine A.s rfl ?_)
        refine A.shift rfl rfl rfl rfl rfl rfl (by omega) ?_
        refine A.valE 67 rfl (x' := U64 (met2 >>> x)) (u64_eq (ushr _ _ hx64)) ?_
        (repeat refine A.s rfl ?_)
        refine A.valE 70 rfl (x' := AB (met2.getLsbD x)) (ab_eq (bit1 met2 x)) ?_
        refine A.cond rfl (fun hc => ?_) (fun hc => ?_)
        · have hm := hc
          have hno : mayU n c = none := by rw [← h1, ← h2, ← h3, chk, if_pos (.inr (.inr (by simpa using hm)))]; rfl
          ((repeat refine A.s rfl ?_); refine A.ret1 (Λ' := []) rfl rfl rfl (List.nil_sublist _) ⟨?_, rfl⟩; exact Sb.eq (ab_eq (none_may hno).symm))
        · have hm := hc
          rw [chk, if_neg (by simp [hm]; omega)] at h3
          (repeat refine A.s rfl ?_)
          refine A.shift rfl rfl rfl rfl rfl rfl (by omega) ?_
          (repeat refine A.s rfl ?_)
          refine A.valE 6 rfl (x' := U64 (met2 ||| bitW x)) (u64_eq (by rw [ushl x hx64, uor])) ?_
          refine A.xa rfl (p := x) (by omega) (by omega) (off1 x) rfl ?_
          refine A.ra rfl (range_at _ hx64) rfl ?_
          (repeat refine A.s rfl ?_)
          refine A.xa rfl (p := x) (by omega) (by omega) (off1 x) rfl ?_
          refine A.wa rfl rfl (by simp; omega) (range_set AI _ x (w64 (u2 x + 1))) ?_
          (repeat refine A.s rfl ?_)
          refine A.valE 52 rfl (x' := AI ((k1 + 1 : Nat) : Int)) (inc_eq k1 (by omega)) ?_
          refine A.sub (by repeat (first | exact trivial | refine ⟨⟨_, rfl, .refl⟩, ?_⟩)) (kh (k1 + 1, (met2 ||| bitW x, upd u2 x (w64 (u2 x + 1)))) ⟨by omega, h3⟩ (by simp only; omega))
      · simp at hc
        have hkl : k1 = st.length := by omega
        have h3 := hk.2
        rw [hkl, foldM_end] at h3
        rw [← h3] at h2
        (repeat refine A.s rfl ?_)
        refine A.valE 43 rfl (x' := AI ((j + 1 : Nat) : Int)) (inc_eq j (by omega)) ?_
        refine A.sub (by repeat (first | exact trivial | refine ⟨⟨_, rfl, .refl⟩, ?_⟩)) (jh (j + 1, (met2, u2)) ⟨by omega, h2⟩ (by simp only; omega))
    · simp at hc
      have hjl : j = p.length := by omega
      have h2 := hj.2
      rw [hjl, foldM_end] at h2
      rw [← h2] at h1
      (repeat refine A.s rfl ?_)
      refine A.valE 34 rfl (x' := AI ((i + 1 : Nat) : Int)) (inc_eq i (by omega)) ?_
      refine A.sub (by repeat (first | exact trivial | refine ⟨⟨_, rfl, .refl⟩, ?_⟩)) (ih (i + 1, u1) ⟨by omega, h1⟩ (by simp only; omega))
  · simp at hc
    have hil : i = c.length := by omega
    have h1 := hi.2
    rw [hil, foldM_end] at h1
    (repeat refine A.s rfl ?_)
    refine A.freeze 3 (sz := 64) rfl rfl (by rw [lenN_eq, arr_len]) ?_
    refine A.sa rfl (arr_len _) (int_one _) rfl ?_
    refine A.valE 83 rfl (x' := rowI ((List.range 64).map u)) (by show AV.sl 1 ((List.range 64).map _) none = AV.sl 1 (((List.range 64).map u).map AI) none; rw [List.map_map]; rfl) ?_
    refine A.c rfl (hasI_p _ [] _ nmay1_p ((List.range 64).map u) (by simp)) .refl ?_
    (repeat refine A.s rfl ?_); refine A.ret1 (Λ' := []) rfl rfl rfl (List.nil_sublist _) ⟨?_, rfl⟩; refine Sb.eq (ab_eq ?_); rw [nmayB, hg, ← h1]; rfl
end Go.Proofs.YtgmeahcclogfmaaGreatDoor
/-!
  Chapter 23: the ends of channels in a kernel; what the program's Class gives.
-/
namespace Go.Proofs.YtgmeahcclogfmaaGreatDoor
open Go Go.Tp
set_option linter.unusedVariables false
set_option linter.unusedSimpArgs false
set_option maxRecDepth 100000
set_option maxHeartbeats 4000000
/-! ### spare places of many slices -/
theorem hollow1 {K : AC} {k : List It} {E : AEnv} {Λ : List AEnt} (sz : Nat) (next : A K k E (.tail sz (.slice none 0 0) :: Λ)) : A K k E Λ :=
  A.fullTail sz 0 none (fun _ => rfl) (fun _ h => by cases h) next
theorem hollows {K : AC} {k : List It} {E : AEnv} {sz : Nat} : ∀ (n : Nat) {Λ : List AEnt}, A K k E (Λ ++ List.replicate n (.tail sz (.slice none 0 0))) → A K k E Λ
  | 0, _, h => by simpa using h
  | n + 1, Λ, h => hollow1 sz (hollows n (A.perm (by
      rw [List.replicate_succ]
      exact List.perm_middle.symm) h))
structure EN where
  b : Int
  c : Int
  out : Bool
  item : Int
def endOf (i : Nat) (x : PR) : EN := ⟨i, x.c, x.kind == 6, x.item⟩
abbrev userA (e : EN) : AV := .ag [AI e.b, AB e.out, AU8 e.item]
def onC (E : List EN) (c : Nat) : List EN := E.filter fun e => e.c == (c : Int)
def usrF (E : List EN) (z : Nat → Value) (c : Nat) : AV := .sl 3 ((onC E c).map userA) (some (z c))
def usrL (E : List EN) (z : Nat → Value) : List AV := arrL (usrF E z)
def tailsL (z : Nat → Value) : List AEnt := (List.range 64).map fun c => .tail 3 (z c)
def tailsX (z : Nat → Value) (c : Nat) : List AEnt := ((List.range 64).erase c).map fun c => .tail 3 (z c)
theorem tailsX_upd (z : Nat → Value) (c : Nat) (z' : Value) : tailsX (upd z c z') c = tailsX z c := by
  refine List.map_congr_left fun x hx => ?_
  have : x ≠ c := fun e => by
    subst e
    exact (List.nodup_range.mem_erase_iff.1 hx).1 rfl
  simp [upd, this]
theorem tails_out (z : Nat → Value) {c : Nat} (hc : c < 64) (l : List AEnt) : (l ++ tailsL z).Perm (.tail 3 (z c) :: (l ++ tailsX z c)) := by
  have h1 : (tailsL z).Perm (.tail 3 (z c) :: tailsX z c) := (List.perm_cons_erase (List.mem_range.2 hc)).map _
  exact (h1.append_left l).trans List.perm_middle
theorem tails_in (z : Nat → Value) {c : Nat} (hc : c < 64) (z' : Value) (l : List AEnt) : (.tail 3 z' :: (l ++ tailsX z c)).Perm (l ++ tailsL (upd z c z')) := by
  have := (tails_out (upd z c z') hc l).symm
  rwa [tailsX_upd, show upd z c z' c = z' by simp [upd]] at this
theorem onC_add (E : List EN) (e : EN) (c : Nat) : onC (E ++ [e]) c = if e.c = c then onC E c ++ [e] else onC E c := by
  unfold onC
  rw [List.filter_append]
  by_cases h : e.c = c
  · rw [if_pos h]; simp [h]
  · rw [if_neg h]; simp [h]
theorem usr_set (E : List EN) (z : Nat → Value) (e : EN) (c : Nat) (hc : e.c = c) (z' : Value) : (usrL E z).set c (.sl 3 ((onC E c).map userA ++ [userA e]) (some z')) = usrL (E ++ [e]) (upd z c z') := by
  have h1 : AV.sl 3 ((onC E c).map userA ++ [userA e]) (some z') = usrF (E ++ [e]) (upd z c z') c := by
    simp only [usrF, onC_add, if_pos hc, List.map_append, List.map_cons, List.map_nil, upd, if_true]
  rw [h1]
  apply List.ext_getElem?
  intro i
  rw [List.getElem?_set]
  by_cases h : i < 64
  · by_cases hx : c = i
    · subst hx
      rw [if_pos rfl, if_pos (by rw [usrL, arr_len]; exact h), usrL, range_at _ h]
    · rw [if_neg hx, usrL, usrL, range_at _ h, range_at _ h]
      have : ¬ e.c = i := by omega
      have hx' : ¬ i = c := fun h => hx h.symm
      simp only [usrF, onC_add, if_neg this, upd, if_neg hx']
  · rw [List.getElem?_eq_none (l := usrL (E ++ [e]) _) (by rw [usrL, arr_len]; omega), List.getElem?_eq_none (by rw [usrL, arr_len]; omega)]
    have : ¬ c < (usrL E z).length ∨ c ≠ i := by rw [usrL, arr_len]; omega
    split
    · split
      · rename_i h2 h3; rw [usrL, arr_len] at h3; omega
      · rfl
    · rfl
theorem usr_nil : usrL [] (fun _ => .slice none 0 0) = List.replicate 64 (.sl 3 [] (some (.slice none 0 0))) := by
  show (List.range 64).map (fun _ => AV.sl 3 [] (some (.slice none 0 0))) = _
  rw [List.map_const', List.length_range]
theorem tails_nil : tailsL (fun _ => .slice none 0 0) = List.replicate 64 (.tail 3 (.slice none 0 0)) := by
  show (List.range 64).map (fun _ => _) = _
  rw [List.map_const', List.length_range]
theorem usr_from {h : GH} {y : Value} (r : Rp h (.ag (List.replicate 64 (.v (.slice none 0 0)))) y) : Rp h (.ag (usrL [] fun _ => .slice none 0 0)) y := by
  rw [usr_nil]
  have key : ∀ n vs, RpC h (List.replicate n (.v (.slice none 0 0))) vs → RpC h (List.replicate n (.sl 3 [] (some (.slice none 0 0)))) vs := by
    intro n
    induction n with
    | zero => intro vs r; exact r
    | succ n ih =>
      intro vs r
      rw [List.replicate_succ] at r ⊢
      exact RpC_imp (fun y q => nil_own 3 q) ih vs r
  exact Rp_ag_imp (key 64) y r
/-! ### the model -/
def endsP (k : KN) (i : Nat) (p : PR) : List EN := ((cycP k p).map (·.map (endOf i))).flatten
def restE (k : KN) : Nat → List PR → List EN
  | _, [] => []
  | i, p :: r => endsP k i p ++ restE k (i + 1) r
def procC (k : KN) (p : PR) : List (List Int) := (cycP k p).map (·.map (·.c))
def netC (k : KN) (q : PR) : Procs := q.l.map (procC k)
def fitE (x y : EN) : Bool := x.b != y.b && x.out != y.out && x.item == y.item
def pairOk : List EN → Bool
  | [] => true
  | [x, y] => fitE x y
  | _ => false
def pairsB (E : List EN) : Bool := (List.range 64).all fun c => pairOk (onC E c)
def classB (k : KN) (q : PR) : Bool := pairsB (restE k 0 q.l) && nmayB k.chans.length (netC k q)
abbrev classR (n : Int) (c : Procs) (b : Bool) : AV := .tp [if b then netA n c else netA 0 [], AB b]
/-! ### bounds -/
theorem good_root {k : KN} (hw : WfN k) (hm : mayK k = true) : Good k k.root ∧ k.chans.length ≤ 64 := by
  simp only [mayK, lensK, Bool.and_eq_true, decide_eq_true_eq] at hm
  exact ⟨⟨hw.root, false, hm.2.1⟩, by omega⟩
theorem Good.ten {k : KN} {p : PR} (g : Good k p) (h : p.kind = 10) : p.l.length ≤ 16 := by
  have hk := g.kind
  unfold kindB at hk
  rw [if_neg (by omega), if_neg (by omega), if_neg (by omega), if_neg (by omega), if_neg (by omega), if_neg (by omega), if_neg (by omega), if_neg (by omega), if_pos h] at hk
  simp only [shapeR, inB, Bool.and_eq_true, decide_eq_true_eq] at hk
  omega
theorem single_16 {k : KN} {s : PR} (g : Good k s) : (singleP s).length ≤ 16 := by
  unfold singleP
  by_cases h : (stepL s).any badQ = true
  · rw [if_pos h]; simp
  · rw [if_neg h, stepL]
    by_cases h10 : s.kind = 10
    · rw [if_pos h10]; exact g.ten h10
    · rw [if_neg h10]; simp
theorem steps_good {k : KN} {q : PR} (g : Good k q) : (∀ s, s ∈ stepsW q → Good k s) ∧ (stepsW q).length ≤ 2048 := by
  unfold stepsW
  split
  · rename_i y r hy
    have gy : Good k y := g.l (by rw [hy]; exact List.mem_cons_self ..)
    split
    · exact ⟨fun s hs => gy.l hs, gy.short⟩
    · exact ⟨fun s hs => g.l hs, g.short⟩
  · exact ⟨fun s hs => absurd hs List.not_mem_nil, Nat.zero_le _⟩
theorem cyc_mem {k : KN} {p : PR} (g : Good k p) {s : List PR} (hs : s ∈ cycP k p) : ∃ x, Good k x ∧ s = singleP x := by
  unfold cycP cycW at hs
  split at hs
  · obtain ⟨x, hx, rfl⟩ := List.mem_map.1 hs
    exact ⟨x, (steps_good g.last).1 x hx, rfl⟩
  · cases hs
theorem cycl_len {k : KN} {p : PR} (g : Good k p) : (cycP k p).length ≤ 2048 := by
  unfold cycP cycW
  split
  · rw [List.length_map]; exact (steps_good g.last).2
  · simp
theorem cycl_one {k : KN} {p : PR} (g : Good k p) {s : List PR} (hs : s ∈ cycP k p) : s.length ≤ 16 ∧ ∀ x, x ∈ s → Good k x ∧ 0 ≤ x.c ∧ x.c < k.chans.length := by
  obtain ⟨y, gy, rfl⟩ := cyc_mem g hs
  refine ⟨single_16 gy, fun x hx => ?_⟩
  obtain ⟨h1, h2⟩ := single_mem hx
  have gx := stepL_good gy h1
  obtain ⟨h3, h4⟩ := badq_no h2
  refine ⟨gx, by omega, ?_⟩
  have hk := gx.kind
  rcases h3 with h3 | h3
  · obtain ⟨t, _, ht⟩ := kind_5 hk h3
    exact (chan_lt (input_place ht).1).2
  · obtain ⟨t, _, ht⟩ := kind_6 hk h3
    exact (chan_lt ht).2
theorem flat_len {α : Type} {n : Nat} : ∀ {l : List (List α)}, (∀ x, x ∈ l → x.length ≤ n) → l.flatten.length ≤ l.length * n
  | [], _ => by simp
  | x :: l, h => by
    have h1 := h x (List.mem_cons_self ..)
    have h2 := flat_len (l := l) fun y hy => h y (List.mem_cons_of_mem _ hy)
    rw [List.flatten_cons, List.length_append, List.length_cons, Nat.succ_mul]; omega
theorem ends_len {k : KN} {p : PR} (g : Good k p) (i : Nat) : (endsP k i p).length ≤ 32768 := by
  have h1 := flat_len (n := 16) (l := (cycP k p).map (·.map (endOf i))) fun x hx => by
    obtain ⟨s, hs, rfl⟩ := List.mem_map.1 hx
    rw [List.length_map]; exact (cycl_one g hs).1
  have h2 := cycl_len g
  rw [List.length_map] at h1
  unfold endsP; omega
theorem rest_len {k : KN} : ∀ {l : List PR} (i : Nat), (∀ p, p ∈ l → Good k p) → (restE k i l).length ≤ l.length * 32768
  | [], _, _ => by simp [restE]
  | p :: l, i, h => by
    have h1 := ends_len (h p (List.mem_cons_self ..)) i
    have h2 := rest_len (l := l) (i + 1) fun y hy => h y (List.mem_cons_of_mem _ hy)
    rw [restE, List.length_append, List.length_cons, Nat.succ_mul]; omega
theorem onC_le (E : List EN) (c : Nat) : (onC E c).length ≤ E.length := List.length_filter_le ..
theorem short_net {k : KN} {q : PR} (g : Good k q) : ShortN (netC k q) where
  procs := by rw [netC, List.length_map]; have := g.len; omega
  steps := fun p hp => by
    obtain ⟨y, hy, rfl⟩ := List.mem_map.1 hp
    rw [procC, List.length_map]; have := cycl_len (g.l hy); omega
  uses := fun p hp s hs => by
    obtain ⟨y, hy, rfl⟩ := List.mem_map.1 hp
    obtain ⟨t, ht, rfl⟩ := List.mem_map.1 hs
    rw [List.length_map]; have := (cycl_one (g.l hy) ht).1; omega
end Go.Proofs.YtgmeahcclogfmaaGreatDoor
