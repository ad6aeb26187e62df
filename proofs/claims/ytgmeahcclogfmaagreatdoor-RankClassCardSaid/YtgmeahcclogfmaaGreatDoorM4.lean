/-
  Texts Q16r Q16s Q16t Q16u R23a S22a S22b, in one. Conditions: as each theorem says.
-/
import Derived.Test.YtgmeahcclogfmaaGreatDoorM3
import Derived.Test.YtgmeahcclogfmaaGreatDoorLh
import Derived.Test.YtgmeahcclogfmaaGreatDoorLc
import Derived.Test.YtgmeahcclogfmaaGreatDoorTpT
import Derived.Test.YtgmeahcclogfmaaGreatDoorLb
/-!
  Layer 16: assignments, and any process by itself, by the reference.
-/
namespace Go.Proofs.YtgmeahcclogfmaaGreatDoor
open Go Go.Tp
set_option linter.unusedVariables false
set_option linter.unusedSimpArgs false
set_option maxRecDepth 100000
set_option maxHeartbeats 4000000
abbrev P4 (c v it : Int) (to : List PL) (e : List KE) (b : List PR) : PR := ⟨4, c, v, it, to, e, [], b⟩
theorem typed_4a (k : KN) (c v it : Int) (t : PL) (to : List PL) (e : List KE) (b : List PR) (hle : (t :: to).length ≠ e.length) : Pure Tryz.prog gs0 47 [encN k, cellsR (P4 c v it (t :: to) e b)] (AB false) := by
  have n1 : (((t :: to).map encPl).length : Int) = (t :: to).length := by rw [List.length_map]
  have n2 : ((encKl e).length : Int) = e.length := by rw [encKl_len]
  refine Pure.of (S := tt) (fn := Tryz.f47) (n := 158) tt_ok Tryz.func47 rfl rfl rfl rfl fun w0 h0 F hgs => ?_
  (repeat first|refine A.s rfl ?_|refine A.r rfl rfl ?_|refine A.b rfl fun bx=>?_)
  refine A.loop1 ?_
  (repeat first|refine A.s rfl ?_|refine A.r rfl rfl ?_)
  refine A.valE 29 rfl (x' := AB true) (ab_eq (by rw [n1]; exact decide_eq_true (by rw [List.length_cons]; omega))) ?_
  (repeat first|refine A.s rfl ?_|refine A.r rfl rfl ?_)
  refine A.x rfl (by decide) rfl rfl rfl ?_
  (repeat refine A.s rfl ?_)
  refine A.draw 49 [0, 1, 2, 3, 4, 5, 6, 7, 8, 9, 10, 11, 12, 13, 14, 15, 16, 17, 18, 19, 20, 21, 22, 23, 24, 25, 26, 27, 28, 29, 30, 31, 32, 33, 34, 35, 36, 37, 38, 39, 40, 41, 42, 43, 44, 45, 46, 47, 48] noPubs [(32, AB false)] (by kernel_rfl) (by kernel_rfl) ?_
  (repeat first|refine WA.s rfl ?_|refine WA.r rfl rfl ?_)
  refine WA.valE 45 rfl (x' := AB true) (ab_eq (by rw [n1, n2]; simp only [bne_iff_ne, ne_eq]; exact fun h => hle (by omega))) ?_
  (repeat refine WA.s rfl ?_)
  refine WA.nil (l := []) rfl ?_
  (repeat refine A.s rfl ?_); refine A.ret1 (Λ' := []) rfl rfl rfl (List.nil_sublist _) ⟨?_, rfl⟩; exact .refl
theorem typed_4b (k : KN) (c v it : Int) (to : List PL) (e : List KE) (b : List PR) (hle : to.length = e.length) (hl8 : to.length ≤ 8) (hwt : ∀ t, t ∈ to → wfPl t) (hwe : ∀ x, x ∈ e → wfK x) (R : Bool) (hR : ((to.zip e).all fun te => assignB k.vars te.1 te.2) = R) :
    Pure Tryz.prog gs0 47 [encN k, cellsR (P4 c v it to e b)] (AB R) := by
  have hlen : ((k.vars.map encV).length : Int) = k.vars.length := by rw [List.length_map]
  have n1 : ((to.map encPl).length : Int) = to.length := by rw [List.length_map]
  have n2 : ((encKl e).length : Int) = e.length := by rw [encKl_len]
  refine Pure.of (S := tt) (fn := Tryz.f47) (n := 158) tt_ok Tryz.func47 rfl rfl rfl rfl fun w0 h0 F hgs => ?_
  (repeat first|refine A.s rfl ?_|refine A.r rfl rfl ?_|refine A.b rfl fun bx=>?_)
  refine A.keep [2, 3, 5] rfl ?_
  refine A.loopP (ι := Nat) (fun i => (⟨[(2, ptrA _), (3, ptrA _), (5, AI (i : Nat))], []⟩, [.box _ (cellsR (P4 c v it to e b)), .box _ (encN k)])) (fun i => i ≤ to.length ∧ ((to.zip e).drop i).all (fun te => assignB k.vars te.1 te.2) = R) (fun i => to.length - i) 0 ⟨by omega, hR⟩ rfl fun i hi ih => ?_
  (repeat first|refine A.s rfl ?_|refine A.r rfl rfl ?_)
  refine A.valE 29 rfl (x' := AB (decide (i < to.length))) (ab_eq (by rw [n1, Bool.eq_iff_iff]; simp)) ?_
  refine A.cond rfl (fun hc => ?_) (fun hc => ?_)
  · have hc : i < to.length := by simpa using hc
    refine Exists.elim (at_exN (l := to) (i := i) hc) fun t ht => ?_
    refine Exists.elim (at_exN (l := e) (i := i) (by omega)) fun x hx => ?_
    have hwt1 := hwt t (List.mem_of_getElem? ht)
    have hwe1 := hwe x (List.mem_of_getElem? hx)
    have h1 := hi.2
    rw [drop_at (zip_both ht hx)] at h1
    (repeat first|refine A.s rfl ?_|refine A.r rfl rfl ?_)
    refine A.x rfl (by omega) (map_at ht) rfl rfl ?_
    (repeat refine A.s rfl ?_)
    by_cases hneg : t.v < 0
    · rw [assign_no (by rw [assignB, if_pos (.inl hneg)])] at h1
      refine A.draw 49 [0, 1, 2, 3, 4, 5, 6, 7, 8, 9, 10, 11, 12, 13, 14, 15, 16, 17, 18, 19, 20, 21, 22, 23, 24, 25, 26, 27, 28, 29, 30, 31, 32, 33, 34, 35, 36, 37, 38, 39, 40, 41, 42, 43, 44, 45, 46, 47, 48] noPubs [(32, AB false)] (by kernel_rfl) (by kernel_rfl) ?_
      (repeat first|refine WA.s rfl ?_|refine WA.r rfl rfl ?_)
      refine WA.valE 45 rfl (x' := AB false) (ab_eq (by rw [n1, n2]; simp; omega)) ?_
      (repeat refine WA.s rfl ?_)
      refine WA.valE 49 rfl (x' := AB true) (ab_eq (by simpa using hneg)) ?_
      (repeat refine WA.s rfl ?_)
      refine WA.nil (l := []) rfl ?_
      (repeat refine A.s rfl ?_); refine A.ret1 (Λ' := []) rfl rfl rfl (List.nil_sublist _) ⟨?_, rfl⟩; rw [← h1]; exact .refl
    by_cases hout : (k.vars.length : Int) ≤ t.v
    · rw [assign_no (by rw [assignB, if_pos (.inr hout)])] at h1
      refine A.draw 49 [0, 1, 2, 3, 4, 5, 6, 7, 8, 9, 10, 11, 12, 13, 14, 15, 16, 17, 18, 19, 20, 21, 22, 23, 24, 25, 26, 27, 28, 29, 30, 31, 32, 33, 34, 35, 36, 37, 38, 39, 40, 41, 42, 43, 44, 45, 46, 47, 48] noPubs [(32, AB false)] (by kernel_rfl) (by kernel_rfl) ?_
      (repeat first|refine WA.s rfl ?_|refine WA.r rfl rfl ?_)
      refine WA.valE 45 rfl (x' := AB false) (ab_eq (by rw [n1, n2]; simp; omega)) ?_
      (repeat refine WA.s rfl ?_)
      refine WA.valE 49 rfl (x' := AB false) (ab_eq (by simp; omega)) ?_
      (repeat first|refine WA.s rfl ?_|refine WA.r rfl rfl ?_)
      refine WA.valE 56 rfl (x' := AB true) (ab_eq (by rw [hlen]; simpa using hout)) ?_
      (repeat refine WA.s rfl ?_)
      refine WA.nil (l := []) rfl ?_
      (repeat refine A.s rfl ?_); refine A.ret1 (Λ' := []) rfl rfl rfl (List.nil_sublist _) ⟨?_, rfl⟩; rw [← h1]; exact .refl
    refine Exists.elim (at_ex (l := k.vars) (i := t.v) (by omega) (by omega)) fun y hy => ?_
    have hv0 : (0 : Int) ≤ t.v := by omega
    have hab : assignB k.vars t x = (placeB k.vars t y.kind && fitV k.vars x y.kind) := by rw [assignB, if_neg (by omega), hy]
    have hpl := rplace_p k.vars t hwt1 y.kind
    have hft := rFits_p k.vars x hwe1 y.kind
    refine Exists.elim (show ∃ b1, b1 = placeB k.vars t y.kind from ⟨_, rfl⟩) fun b1 e1 => Exists.elim (show ∃ b2, b2 = fitV k.vars x y.kind from ⟨_, rfl⟩) fun b2 e2 => ?_
    rw [← e1] at hpl hab
    rw [← e2] at hft hab
    by_cases hb1 : b1 = true
    · rw [hb1] at hpl hab
      refine A.draw 49 [0, 1, 2, 3, 4, 5, 6, 7, 8, 9, 10, 11, 12, 13, 14, 15, 16, 17, 18, 19, 20, 21, 22, 23, 24, 25, 26, 27, 28, 29, 30, 31, 32, 33, 34, 35, 36, 37, 38, 39, 40, 41, 42, 43, 44, 45, 46, 47, 48] noPubs [(32, AB true)] (by kernel_rfl) (by kernel_rfl) ?_
      (repeat first|refine WA.s rfl ?_|refine WA.r rfl rfl ?_)
      refine WA.valE 45 rfl (x' := AB false) (ab_eq (by rw [n1, n2]; simp; omega)) ?_
      (repeat refine WA.s rfl ?_)
      refine WA.valE 49 rfl (x' := AB false) (ab_eq (by simp; omega)) ?_
      (repeat first|refine WA.s rfl ?_|refine WA.r rfl rfl ?_)
      refine WA.valE 56 rfl (x' := AB false) (ab_eq (by rw [hlen]; simp; omega)) ?_
      (repeat first|refine WA.s rfl ?_|refine WA.r rfl rfl ?_)
      refine WA.x rfl (by omega) (map_at ht) rfl rfl ?_
      (repeat first|refine WA.s rfl ?_|refine WA.r rfl rfl ?_)
      refine WA.x rfl hv0 (map_at hy) rfl rfl ?_
      (repeat refine WA.s rfl ?_)
      refine WA.c rfl rfl hpl (.sub .refl) ?_
      (repeat first|refine WA.s rfl ?_|refine WA.r rfl rfl ?_)
      refine WA.x rfl (by omega) (encKl_at hx) (encK_eq x) rfl ?_
      (repeat first|refine WA.s rfl ?_|refine WA.r rfl rfl ?_)
      refine WA.x rfl hv0 (map_at hy) rfl rfl ?_
      (repeat refine WA.s rfl ?_)
      refine WA.nil (l := []) rfl ?_
      skip
      refine A.c rfl hft .refl ?_
      (repeat refine A.s rfl ?_)
      refine A.valE 89 rfl (x' := AB (!b2)) (ab_eq (by rfl)) ?_
      refine A.cond rfl (fun hc => ?_) (fun hc => ?_)
      · have hf : b2 = false := by simpa using hc
        rw [assign_no (by rw [hab, hf, Bool.and_false])] at h1
        (repeat refine A.s rfl ?_); refine A.ret1 (Λ' := []) rfl rfl rfl (List.nil_sublist _) ⟨?_, rfl⟩; rw [← h1]; exact .refl
      · have hf : b2 = true := by simpa using hc
        rw [List.all_cons] at h1
        have hat : assignB k.vars t x = true := by rw [hab, hf]; rfl
        simp only [hat, Bool.true_and] at h1
        (repeat refine A.s rfl ?_)
        refine A.valE 5 rfl (x' := AI ((i + 1 : Nat) : Int)) (inc_eq i (by omega)) ?_
        refine A.sub (by repeat (first | exact trivial | refine ⟨⟨_, rfl, .refl⟩, ?_⟩)) (ih (i + 1) ⟨by omega, h1⟩ (by omega))
    · have hb1 : b1 = false := by simpa using hb1
      rw [hb1] at hpl hab
      rw [assign_no (by rw [hab]; rfl)] at h1
      refine A.draw 49 [0, 1, 2, 3, 4, 5, 6, 7, 8, 9, 10, 11, 12, 13, 14, 15, 16, 17, 18, 19, 20, 21, 22, 23, 24, 25, 26, 27, 28, 29, 30, 31, 32, 33, 34, 35, 36, 37, 38, 39, 40, 41, 42, 43, 44, 45, 46, 47, 48] noPubs [(32, AB false)] (by kernel_rfl) (by kernel_rfl) ?_
      (repeat first|refine WA.s rfl ?_|refine WA.r rfl rfl ?_)
      refine WA.valE 45 rfl (x' := AB false) (ab_eq (by rw [n1, n2]; simp; omega)) ?_
      (repeat refine WA.s rfl ?_)
      refine WA.valE 49 rfl (x' := AB false) (ab_eq (by simp; omega)) ?_
      (repeat first|refine WA.s rfl ?_|refine WA.r rfl rfl ?_)
      refine WA.valE 56 rfl (x' := AB false) (ab_eq (by rw [hlen]; simp; omega)) ?_
      (repeat first|refine WA.s rfl ?_|refine WA.r rfl rfl ?_)
      refine WA.x rfl (by omega) (map_at ht) rfl rfl ?_
      (repeat first|refine WA.s rfl ?_|refine WA.r rfl rfl ?_)
      refine WA.x rfl hv0 (map_at hy) rfl rfl ?_
      (repeat refine WA.s rfl ?_)
      refine WA.c rfl rfl hpl (.sub .refl) ?_
      (repeat refine WA.s rfl ?_)
      refine WA.nil (l := []) rfl ?_
      (repeat refine A.s rfl ?_); refine A.ret1 (Λ' := []) rfl rfl rfl (List.nil_sublist _) ⟨?_, rfl⟩; rw [← h1]; exact .refl
  · have hc : ¬ i < to.length := by simpa using hc
    have h1 := hi.2
    rw [List.drop_eq_nil_of_le (by rw [zip_len hle]; omega), List.all_nil] at h1
    (repeat refine A.s rfl ?_)
    refine A.loop1 ?_
    (repeat first|refine A.s rfl ?_|refine A.r rfl rfl ?_); refine A.ret1 (Λ' := []) rfl rfl rfl (List.nil_sublist _) ⟨?_, rfl⟩; rw [← h1]; exact .refl
theorem inB_11 {m : Nat} (h : inB m 1 1 = true) : m = 1 := by simp only [inB, Bool.and_eq_true, decide_eq_true_eq] at h; omega
theorem one_of {α : Type} {l : List α} (h : l.length = 1) : ∃ a, l = [a] := by
  match l, h with
  | [a], _ => exact ⟨a, rfl⟩
theorem typed_p (k : KN) (p : PR) (hw : WfR p) (hlk : looksB p = true) : Pure Tryz.prog gs0 47 [encN k, cellsR p] (AB (kindB k.vars k.chans.length p)) := by
  obtain ⟨kd, c, v, it, to, e, gs, b⟩ := p
  have hwt := hw.to
  have hwe := hw.e
  have hwg := hw.g
  have hgl := hw.gl
  simp only [PR.to, PR.e, PR.gs] at hwt hwe hwg hgl
  by_cases k12 : kd = 1 ∨ kd = 2
  · have hs : looksB ⟨kd, c, v, it, to, e, gs, b⟩ = kindB k.vars k.chans.length ⟨kd, c, v, it, to, e, gs, b⟩ := by simp only [looksB, kindB, PR.kind, formK, if_pos k12, fm0]
    rw [← hs, hlk]
    refine typed_g k ⟨kd, c, v, it, to, e, gs, b⟩ (by show kd ≠ 3 ∧ kd ≠ 4 ∧ kd ≠ 5 ∧ kd ≠ 6 ∧ kd ≠ 7 ∧ kd ≠ 8 ∧ kd ≠ 13; omega) hwg hgl true ?_
    have h0 : gs = [] := by
      simp only [looksB, PR.kind, formK, if_pos k12, fm0, shapeR, Bool.and_eq_true] at hlk
      exact List.length_eq_zero_iff.1 (inB_0 hlk.1.2)
    subst h0; rfl
  by_cases k3 : kd = 3
  · subst k3
    have hs : kindB k.vars k.chans.length ⟨3, c, v, it, to, e, gs, b⟩ = (looksB ⟨3, c, v, it, to, e, gs, b⟩ && decide (0 ≤ v) && decide (v < k.vars.length)) := rfl
    rw [hs, hlk, Bool.true_and]
    exact typed_3 k c v it to e gs b
  by_cases k4 : kd = 4
  · subst k4
    have hs : kindB k.vars k.chans.length ⟨4, c, v, it, to, e, gs, b⟩ = (looksB ⟨4, c, v, it, to, e, gs, b⟩ && (to.length == e.length) && (to.zip e).all fun te => assignB k.vars te.1 te.2) := rfl
    have hl2 : looksB ⟨4, c, v, it, to, e, gs, b⟩ = shapeR ⟨4, c, v, it, to, e, gs, b⟩ false false 1 8 1 8 0 0 0 0 := rfl
    rw [hs, hlk, Bool.true_and]
    rw [hl2] at hlk
    simp only [shapeR, Bool.and_eq_true] at hlk
    have h0 : gs = [] := List.length_eq_zero_iff.1 (inB_0 hlk.1.2)
    have ht := hlk.1.1.1.2
    simp only [inB, Bool.and_eq_true, decide_eq_true_eq, PR.to] at ht
    subst h0
    by_cases hle : to.length = e.length
    · rw [show (to.length == e.length) = true from beq_iff_eq.2 hle, Bool.true_and]
      exact typed_4b k c v it to e b hle (by omega) hwt hwe _ rfl
    · rw [show (to.length == e.length) = false from beq_eq_false_iff_ne.2 hle, Bool.false_and]
      match to, hle, ht with
      | [], _, ht => simp at ht
      | t :: to, hle, _ => exact typed_4a k c v it t to e b hle
  by_cases k5 : kd = 5
  · subst k5
    have hs : kindB k.vars k.chans.length ⟨5, c, v, it, to, e, gs, b⟩ = (looksB ⟨5, c, v, it, to, e, gs, b⟩ && to1 (inputB k.vars k.chans.length c it) to) := rfl
    have hl2 : looksB ⟨5, c, v, it, to, e, gs, b⟩ = shapeR ⟨5, c, v, it, to, e, gs, b⟩ true false 1 1 0 0 0 0 0 0 := rfl
    rw [hs, hlk, Bool.true_and]
    rw [hl2] at hlk
    simp only [shapeR, Bool.and_eq_true] at hlk
    obtain ⟨t, rfl⟩ := one_of (inB_11 hlk.1.1.1.2)
    exact typed_5 k c v it t (hwt t (List.mem_cons_self ..)) e gs b
  by_cases k6 : kd = 6
  · subst k6
    have hs : kindB k.vars k.chans.length ⟨6, c, v, it, to, e, gs, b⟩ = (looksB ⟨6, c, v, it, to, e, gs, b⟩ && chanB k.chans.length c it 0 && fit1 k.vars e it) := rfl
    have hl2 : looksB ⟨6, c, v, it, to, e, gs, b⟩ = shapeR ⟨6, c, v, it, to, e, gs, b⟩ true false 0 0 1 1 0 0 0 0 := rfl
    rw [hs, hlk, Bool.true_and]
    rw [hl2] at hlk
    simp only [shapeR, Bool.and_eq_true] at hlk
    obtain ⟨t, rfl⟩ := one_of (inB_11 hlk.1.1.2)
    exact typed_6 k c v it to t (hwe t (List.mem_cons_self ..)) gs b
  by_cases k7 : kd = 7
  · subst k7
    have hs : kindB k.vars k.chans.length ⟨7, c, v, it, to, e, gs, b⟩ = (looksB ⟨7, c, v, it, to, e, gs, b⟩ && to1 (fun t => placeB k.vars t 1) to) := rfl
    have hl2 : looksB ⟨7, c, v, it, to, e, gs, b⟩ = shapeR ⟨7, c, v, it, to, e, gs, b⟩ false false 1 1 0 0 0 0 0 0 := rfl
    rw [hs, hlk, Bool.true_and]
    rw [hl2] at hlk
    simp only [shapeR, Bool.and_eq_true] at hlk
    obtain ⟨t, rfl⟩ := one_of (inB_11 hlk.1.1.1.2)
    exact typed_7 k c v it t (hwt t (List.mem_cons_self ..)) e gs b
  by_cases k8 : kd = 8
  · subst k8
    have hs : kindB k.vars k.chans.length ⟨8, c, v, it, to, e, gs, b⟩ = (looksB ⟨8, c, v, it, to, e, gs, b⟩ && fit1 k.vars e 1) := rfl
    have hl2 : looksB ⟨8, c, v, it, to, e, gs, b⟩ = shapeR ⟨8, c, v, it, to, e, gs, b⟩ false false 0 0 1 1 0 0 0 0 := rfl
    rw [hs, hlk, Bool.true_and]
    rw [hl2] at hlk
    simp only [shapeR, Bool.and_eq_true] at hlk
    obtain ⟨t, rfl⟩ := one_of (inB_11 hlk.1.1.2)
    exact typed_8 k c v it to t (hwe t (List.mem_cons_self ..)) gs b
  by_cases k13 : kd = 13
  · subst k13
    have hs : kindB k.vars k.chans.length ⟨13, c, v, it, to, e, gs, b⟩ = (looksB ⟨13, c, v, it, to, e, gs, b⟩ && fit1 k.vars e 3) := rfl
    have hl2 : looksB ⟨13, c, v, it, to, e, gs, b⟩ = shapeR ⟨13, c, v, it, to, e, gs, b⟩ false false 0 0 1 1 0 0 1 1 := rfl
    rw [hs, hlk, Bool.true_and]
    rw [hl2] at hlk
    simp only [shapeR, Bool.and_eq_true] at hlk
    obtain ⟨t, rfl⟩ := one_of (inB_11 hlk.1.1.2)
    exact typed_13 k c v it to t (hwe t (List.mem_cons_self ..)) gs b
  · refine typed_g k ⟨kd, c, v, it, to, e, gs, b⟩ (by show kd ≠ 3 ∧ kd ≠ 4 ∧ kd ≠ 5 ∧ kd ≠ 6 ∧ kd ≠ 7 ∧ kd ≠ 8 ∧ kd ≠ 13; omega) hwg hgl _ ?_
    by_cases k9 : kd = 9
    · subst k9
      have hs : kindB k.vars k.chans.length ⟨9, c, v, it, to, e, gs, b⟩ = looksB ⟨9, c, v, it, to, e, gs, b⟩ := rfl
      have hl2 : looksB ⟨9, c, v, it, to, e, gs, b⟩ = shapeR ⟨9, c, v, it, to, e, gs, b⟩ false false 0 0 0 0 0 0 0 2048 := rfl
      rw [hs, hlk]
      rw [hl2] at hlk
      simp only [shapeR, Bool.and_eq_true] at hlk
      have h0 : gs = [] := List.length_eq_zero_iff.1 (inB_0 hlk.1.2)
      subst h0; rfl
    by_cases k10 : kd = 10
    · subst k10
      have hs : kindB k.vars k.chans.length ⟨10, c, v, it, to, e, gs, b⟩ = looksB ⟨10, c, v, it, to, e, gs, b⟩ := rfl
      have hl2 : looksB ⟨10, c, v, it, to, e, gs, b⟩ = shapeR ⟨10, c, v, it, to, e, gs, b⟩ false false 0 0 0 0 0 0 0 16 := rfl
      rw [hs, hlk]
      rw [hl2] at hlk
      simp only [shapeR, Bool.and_eq_true] at hlk
      have h0 : gs = [] := List.length_eq_zero_iff.1 (inB_0 hlk.1.2)
      subst h0; rfl
    by_cases k11 : kd = 11
    · subst k11
      have hs : kindB k.vars k.chans.length ⟨11, c, v, it, to, e, gs, b⟩ = looksB ⟨11, c, v, it, to, e, gs, b⟩ := rfl
      have hl2 : looksB ⟨11, c, v, it, to, e, gs, b⟩ = shapeR ⟨11, c, v, it, to, e, gs, b⟩ false false 0 0 0 0 0 0 2 2 := rfl
      rw [hs, hlk]
      rw [hl2] at hlk
      simp only [shapeR, Bool.and_eq_true] at hlk
      have h0 : gs = [] := List.length_eq_zero_iff.1 (inB_0 hlk.1.2)
      subst h0; rfl
    by_cases kc : kd = 12 ∨ kd = 14 ∨ kd = 15
    · have hs : kindB k.vars k.chans.length ⟨kd, c, v, it, to, e, gs, b⟩ = (looksB ⟨kd, c, v, it, to, e, gs, b⟩ && gs.all fun g => guardB k.vars k.chans.length g (kd == 12)) := by
        rcases kc with rfl | rfl | rfl <;> rfl
      rw [hs, hlk, Bool.true_and]
    · have : looksB ⟨kd, c, v, it, to, e, gs, b⟩ = false := by
        simp only [looksB, PR.kind, formK, if_neg k12, if_neg k3, if_neg k4, if_neg k5, if_neg k6, if_neg k7, if_neg k8, if_neg k9, if_neg k10, if_neg k11, if_neg kc, if_neg k13]
      rw [this] at hlk; cases hlk
theorem looks_of_kind {l : List KV} {n : Nat} {p : PR} (h : looksB p = false) : kindB l n p = false := by
  cases hk : kindB l n p with
  | false => rfl
  | true =>
    obtain ⟨kd, c, v, it, to, e, gs, b⟩ := p
    have hr := kind_bodies hk
    exfalso
    simp only [PR.kind] at hr
    rcases kinds_15 ⟨hr.1, hr.2.1⟩ with rfl | rfl | rfl | rfl | rfl | rfl | rfl | rfl | rfl | rfl | rfl | rfl | rfl | rfl | rfl
    · have hs : kindB l n ⟨1, c, v, it, to, e, gs, b⟩ = (looksB ⟨1, c, v, it, to, e, gs, b⟩) := rfl
      rw [hs, h] at hk; simp at hk
    · have hs : kindB l n ⟨2, c, v, it, to, e, gs, b⟩ = (looksB ⟨2, c, v, it, to, e, gs, b⟩) := rfl
      rw [hs, h] at hk; simp at hk
    · have hs : kindB l n ⟨3, c, v, it, to, e, gs, b⟩ = (looksB ⟨3, c, v, it, to, e, gs, b⟩ && decide (0 ≤ v) && decide (v < l.length)) := rfl
      rw [hs, h] at hk; simp at hk
    · have hs : kindB l n ⟨4, c, v, it, to, e, gs, b⟩ = (looksB ⟨4, c, v, it, to, e, gs, b⟩ && (to.length == e.length) && (to.zip e).all fun te => assignB l te.1 te.2) := rfl
      rw [hs, h] at hk; simp at hk
    · have hs : kindB l n ⟨5, c, v, it, to, e, gs, b⟩ = (looksB ⟨5, c, v, it, to, e, gs, b⟩ && to1 (inputB l n c it) to) := rfl
      rw [hs, h] at hk; simp at hk
    · have hs : kindB l n ⟨6, c, v, it, to, e, gs, b⟩ = (looksB ⟨6, c, v, it, to, e, gs, b⟩ && chanB n c it 0 && fit1 l e it) := rfl
      rw [hs, h] at hk; simp at hk
    · have hs : kindB l n ⟨7, c, v, it, to, e, gs, b⟩ = (looksB ⟨7, c, v, it, to, e, gs, b⟩ && to1 (fun t => placeB l t 1) to) := rfl
      rw [hs, h] at hk; simp at hk
    · have hs : kindB l n ⟨8, c, v, it, to, e, gs, b⟩ = (looksB ⟨8, c, v, it, to, e, gs, b⟩ && fit1 l e 1) := rfl
      rw [hs, h] at hk; simp at hk
    · have hs : kindB l n ⟨9, c, v, it, to, e, gs, b⟩ = (looksB ⟨9, c, v, it, to, e, gs, b⟩) := rfl
      rw [hs, h] at hk; simp at hk
    · have hs : kindB l n ⟨10, c, v, it, to, e, gs, b⟩ = (looksB ⟨10, c, v, it, to, e, gs, b⟩) := rfl
      rw [hs, h] at hk; simp at hk
    · have hs : kindB l n ⟨11, c, v, it, to, e, gs, b⟩ = (looksB ⟨11, c, v, it, to, e, gs, b⟩) := rfl
      rw [hs, h] at hk; simp at hk
    · have hs : kindB l n ⟨12, c, v, it, to, e, gs, b⟩ = (looksB ⟨12, c, v, it, to, e, gs, b⟩ && gs.all fun g => guardB l n g ((12 : Int) == 12)) := rfl
      rw [hs, h] at hk; simp at hk
    · have hs : kindB l n ⟨13, c, v, it, to, e, gs, b⟩ = (looksB ⟨13, c, v, it, to, e, gs, b⟩ && fit1 l e 3) := rfl
      rw [hs, h] at hk; simp at hk
    · have hs : kindB l n ⟨14, c, v, it, to, e, gs, b⟩ = (looksB ⟨14, c, v, it, to, e, gs, b⟩ && gs.all fun g => guardB l n g ((14 : Int) == 12)) := rfl
      rw [hs, h] at hk; simp at hk
    · have hs : kindB l n ⟨15, c, v, it, to, e, gs, b⟩ = (looksB ⟨15, c, v, it, to, e, gs, b⟩ && gs.all fun g => guardB l n g ((15 : Int) == 12)) := rfl
      rw [hs, h] at hk; simp at hk
end Go.Proofs.YtgmeahcclogfmaaGreatDoor
/-!
  Layer 16: May, by the reference.
-/
namespace Go.Proofs.YtgmeahcclogfmaaGreatDoor
open Go Go.Tp
set_option linter.unusedVariables false
set_option linter.unusedSimpArgs false
set_option maxRecDepth 100000
set_option maxHeartbeats 4000000
abbrev innA (k : KN) (deep : Int) (high : Bool) : AV := .ag [varsA k.vars, chsA k.chans, AU8 k.root.kind, AI k.root.c, AI k.root.v, AU8 k.root.item, plsA k.root.to, kesA k.root.e, gsA k.root.gs, rsA k.root.l, intsA k.procs, AI deep, AB high]
theorem innA_eq (k : KN) {d d' : Int} {h h' : Bool} (h1 : d = d') (h2 : h = h') : innA k d h = innA k d' h' := by rw [h1, h2]
def leftI (k : KN) (high : Bool) (deep : Int) (p : PR) (n : Int) : Int := if fitsR k.vars k.chans.length high p n (32 - deep) then n - szR p else -1
abbrev leftE (k : KN) (p : PR) (deep : Int) (high : Bool) (n : Int) : Prop := Pure Tryz.prog gs0 37 [innA k deep high, cellsR p, AI n] (AI (leftI k high deep p n))
theorem left_a (k : KN) (p : PR) (deep : Int) (high : Bool) (n : Int) (hz : n = 0 ∨ deep = 32) (r0 : 0 ≤ n) (d1 : deep ≤ 32) : leftE k p deep high n := by
  have hnf : ¬ fitsR k.vars k.chans.length high p n (32 - deep) := fitsR_no (by omega)
  unfold leftE
  refine Pure.of (S := tt) (fn := Tryz.f37) (n := 104) tt_ok Tryz.func37 rfl rfl rfl rfl fun w0 h0 F hgs => ?_
  (repeat first|refine A.s rfl ?_|refine A.r rfl rfl ?_|refine A.b rfl fun bx=>?_|refine A.step rfl ?_|refine A.v rfl rfl ?_)
  refine A.valE 16 rfl (x' := AB true) (ab_eq (by simp; omega)) ?_
  ((repeat refine A.s rfl ?_); refine A.ret1 (Λ' := []) rfl rfl rfl (List.nil_sublist _) ⟨?_, rfl⟩; exact Sb.eq (ai_eq (if_neg hnf).symm))
theorem left_b (k : KN) (p : PR) (deep : Int) (high : Bool) (n : Int) (hlk : looksB p = false) : leftE k p deep high n := by
  have hnf : ¬ fitsR k.vars k.chans.length high p n (32 - deep) := fitsR_no (.inr (.inr (.inl (looks_of_kind hlk))))
  have h1 := looks_p p
  rw [hlk] at h1
  unfold leftE
  refine Pure.of (S := tt) (fn := Tryz.f37) (n := 104) tt_ok Tryz.func37 rfl rfl rfl rfl fun w0 h0 F hgs => ?_
  (repeat' first|first|refine A.s rfl ?_|refine A.r rfl rfl ?_|refine A.w rfl rfl ?_|refine A.p rfl ?_|refine A.b rfl fun bx=>?_|refine A.t rfl fun bl=>?_|refine A.c rfl h1 .refl ?_|((fail_if_success (refine A.lit? rfl ?_)); refine A.gS rfl (fun hc => ?_) (fun hc => ?_))|((fail_if_success (refine A.litP? rfl ?_)); refine A.gSP rfl (fun hc => ?_) (fun hc => ?_)))
  all_goals (skip; refine A.ret1 (Λ' := []) rfl rfl rfl (List.nil_sublist _) ⟨?_, rfl⟩; exact Sb.eq (ai_eq (if_neg hnf).symm))
theorem left_c (k : KN) (p : PR) (hw : wfR p) (deep : Int) (high : Bool) (n : Int) (hlk : looksB p = true) (hk : kindB k.vars k.chans.length p = false) : leftE k p deep high n := by
  have hnf : ¬ fitsR k.vars k.chans.length high p n (32 - deep) := fitsR_no (.inr (.inr (.inl hk)))
  have h1 := looks_p p
  have h2 := typed_p k p (wfR_all hw) hlk
  rw [hlk] at h1
  rw [hk] at h2
  unfold leftE
  refine Pure.of (S := tt) (fn := Tryz.f37) (n := 104) tt_ok Tryz.func37 rfl rfl rfl rfl fun w0 h0 F hgs => ?_
  (repeat' first|first|refine A.s rfl ?_|refine A.r rfl rfl ?_|refine A.w rfl rfl ?_|refine A.p rfl ?_|refine A.b rfl fun bx=>?_|refine A.t rfl fun bl=>?_|refine A.c rfl h1 .refl ?_|refine A.c rfl h2 .refl ?_|((fail_if_success (refine A.lit? rfl ?_)); refine A.gS rfl (fun hc => ?_) (fun hc => ?_))|((fail_if_success (refine A.litP? rfl ?_)); refine A.gSP rfl (fun hc => ?_) (fun hc => ?_)))
  all_goals (skip; refine A.ret1 (Λ' := []) rfl rfl rfl (List.nil_sublist _) ⟨?_, rfl⟩; exact Sb.eq (ai_eq (if_neg hnf).symm))
theorem left_d (k : KN) (p : PR) (hw : wfR p) (deep : Int) (n : Int) (hlk : looksB p = true) (hk : kindB k.vars k.chans.length p = true) (h11 : p.kind = 11) : leftE k p deep true n := by
  have hnf : ¬ fitsR k.vars k.chans.length true p n (32 - deep) := fitsR_no (.inr (.inr (.inr (by rw [h11]; rfl))))
  have h1 := looks_p p
  have h2 := typed_p k p (wfR_all hw) hlk
  rw [hlk] at h1
  rw [hk] at h2
  unfold leftE
  have hkk : (p.kind == 11) = true := by rw [h11]; rfl
  refine Pure.of (S := tt) (fn := Tryz.f37) (n := 104) tt_ok Tryz.func37 rfl rfl rfl rfl fun w0 h0 F hgs => ?_
  (repeat' first|first|refine A.s rfl ?_|refine A.r rfl rfl ?_|refine A.w rfl rfl ?_|refine A.p rfl ?_|refine A.b rfl fun bx=>?_|refine A.t rfl fun bl=>?_|refine A.c rfl h1 .refl ?_|refine A.c rfl h2 .refl ?_|((fail_if_success (refine A.lit? rfl ?_)); refine A.gS rfl (fun hc => ?_) (fun hc => ?_))|((fail_if_success (refine A.litP? rfl ?_)); refine A.gSP rfl (fun hc => ?_) (fun hc => ?_)))
  all_goals first | (skip; refine A.ret1 (Λ' := []) rfl rfl rfl (List.nil_sublist _) ⟨?_, rfl⟩; exact Sb.eq (ai_eq (if_neg hnf).symm)) | (exact absurd hkk (by simp_all))
theorem left_e (k : KN) (p : PR) (hw : wfR p) (deep : Int) (high : Bool) (n : Int) (r0 : 1 ≤ n) (r1 : n ≤ 2048) (d0 : 0 ≤ deep) (d1 : deep < 32) (hlk : looksB p = true) (hk : kindB k.vars k.chans.length p = true) (hh : (high && p.kind == 11) = false)
    (ih0 : ∀ (y : PR) (hi : Bool) (lf : Int), wfR y → szR y < szR p → 0 ≤ lf → lf ≤ 2048 → leftE k y (deep + 1) hi lf) : leftE k p deep high n := by
  have hw1 : IntKind.i64.wrap (n - 1) = n - 1 := wr64 _ (by omega)
  have hw2 : IntKind.i64.wrap (deep + 1) = deep + 1 := wr64 _ (by omega)
  have hwa := wfR_all hw
  have h1 := looks_p p
  have h2 := typed_p k p hwa hlk
  rw [hlk] at h1
  rw [hk] at h2
  have hbod := (kind_bodies hk).2.2
  have hfl := fitsR_l (high := high) (p := p) (room := n) (deep := 32 - deep) r0 (by omega) hk hh
  rw [show 32 - deep - 1 = 32 - (deep + 1) by omega] at hfl
  have hse := szR_eq p
  have n1 : ((encRl p.l).length : Int) = p.l.length := by rw [encRl_len]
  have n2 : ((encGl p.gs).length : Int) = p.gs.length := by rw [encGl_len]
  unfold leftE
  refine Pure.of (S := tt) (fn := Tryz.f37) (n := 104) tt_ok Tryz.func37 rfl rfl rfl rfl fun w0 h0 F hgs => ?_
  (repeat first|refine A.s rfl ?_|refine A.r rfl rfl ?_|refine A.b rfl fun bx=>?_|refine A.step rfl ?_|refine A.v rfl rfl ?_)
  refine A.valE 16 rfl (x' := AB false) (ab_eq (by rw [Bool.eq_iff_iff]; simp; omega)) ?_
  skip
  refine A.c rfl h1 .refl ?_
  (repeat first|refine A.s rfl ?_|refine A.r rfl rfl ?_)
  refine A.c rfl h2 .refl ?_
  (repeat first|refine A.s rfl ?_|refine A.r rfl rfl ?_|refine A.step rfl ?_|refine A.v rfl rfl ?_)
  refine A.valE 36 rfl (x' := AB false) (ab_eq (by revert hh; generalize (p.kind == 11) = b11; cases high <;> cases b11 <;> simp)) ?_
  (repeat refine A.s rfl ?_)
  refine A.valE 2 rfl (x' := AI (n - 1)) (ai_eq hw1) ?_
  refine A.keep [2, 3, 4, 7] rfl ?_
  refine A.loopP (ι := Nat × Int) (fun q => (⟨[(2, AI q.2), (3, ptrA _), (4, ptrA _), (7, AI (q.1 : Nat))], []⟩, [.box _ (cellsR p), .box _ (innA k deep high)]))
    (fun q => q.1 ≤ p.l.length ∧ ((fitsPs k.vars k.chans.length high (p.kind == 11) (p.l.take q.1) (n - 1) (32 - (deep + 1)) ∧ q.2 = n - 1 - (szL (p.l.take q.1) : Nat)) ∨ (q.2 = -1 ∧ ¬ fitsR k.vars k.chans.length high p n (32 - deep)))) (fun q => p.l.length - q.1) (0, n - 1) ⟨Nat.zero_le _, .inl ⟨⟨by simp [okL], by simp [szL]; omega, by simp [htL]; omega⟩, by simp [szL]⟩⟩ rfl fun q hi ih => ?_
  obtain ⟨i, lf⟩ := q
  obtain ⟨hi1, hi2⟩ := hi
  simp only at hi1 hi2
  by_cases hlf : lf < 0
  · have hneg : lf = -1 ∧ ¬ fitsR k.vars k.chans.length high p n (32 - deep) := by
      rcases hi2 with ⟨hf, he⟩ | h
      · have := hf.2.1; omega
      · exact h
    have hnf := hneg.2
    have hlf1 := hneg.1
    subst hlf1
    (repeat first|refine A.s rfl ?_|refine A.r rfl rfl ?_|refine A.step rfl ?_)
    refine A.valE 47 rfl (x' := AB false) (ab_eq (by simp)) ?_
    (repeat refine A.s rfl ?_)
    refine A.loop1 ?_
    (repeat first|refine A.s rfl ?_|refine A.r rfl rfl ?_|refine A.step rfl ?_)
    refine A.valE 82 rfl (x' := AB false) (ab_eq (by simp)) ?_
    (repeat refine A.s rfl ?_); refine A.ret1 (Λ' := []) rfl rfl rfl (List.nil_sublist _) ⟨?_, rfl⟩; exact Sb.eq (ai_eq (if_neg hnf).symm)
  have hpos : fitsPs k.vars k.chans.length high (p.kind == 11) (p.l.take i) (n - 1) (32 - (deep + 1)) ∧ lf = n - 1 - (szL (p.l.take i) : Nat) := by
    rcases hi2 with h | h
    · exact h
    · omega
  clear hi2
  obtain ⟨hi2, hi3⟩ := hpos
  have hsz2 := hi2.2.1
  (repeat first|refine A.s rfl ?_|refine A.r rfl rfl ?_|refine A.step rfl ?_)
  refine A.valE 47 rfl (x' := AB (decide (i < p.l.length))) (ab_eq (by rw [n1, Bool.eq_iff_iff]; simp; omega)) ?_
  refine A.cond rfl (fun hc => ?_) (fun hc => ?_)
  · have hc : i < p.l.length := by simpa using hc
    refine Exists.elim (at_exN (l := p.l) (i := i) (by omega)) fun y hy => ?_
    have hym := List.mem_of_getElem? hy
    have htk : p.l.take (i + 1) = p.l.take i ++ [y] := by rw [List.take_add_one, hy]; rfl
    have hsn := fitsPs_snoc (x := y) hi2
    rw [← htk, ← hi3, take_empty (by omega)] at hsn
    have ihy := ih0 y (high || ((p.kind == 11) && decide (i = 0))) lf (hwa.l y hym) (by have := szL_le hym; omega) (by omega) (by omega)
    unfold leftE at ihy
    have e0 : (((i : Nat) : Int) == 0) = decide (i = 0) := by rw [Bool.eq_iff_iff]; simp
    (repeat refine A.s rfl ?_)
    refine A.draw 23 [0, 1, 2, 3, 4, 5, 6, 7, 8, 9, 10, 11, 12, 13, 14, 15, 16, 17, 18, 19, 20, 21, 22] noPubs [] (by kernel_rfl) (by kernel_rfl) ?_
    (repeat first|refine WA.s rfl ?_|refine WA.r rfl rfl ?_|refine WA.step rfl ?_|refine WA.v rfl rfl ?_)
    refine WA.valE 66 rfl (x' := innA k (deep + 1) (high || ((p.kind == 11) && decide (i = 0)))) (innA_eq k hw2 (by rw [e0]; clear ih ihy hsn; generalize (p.kind == 11) = b11; cases high <;> cases b11 <;> simp)) ?_
    refine WA.x rfl (by show (0 : Int) ≤ (i : Nat); omega) (encRl_at hy) (encR_eq y) rfl ?_
    (repeat refine WA.s rfl ?_)
    refine WA.nil (l := []) rfl ?_
    skip
    refine A.c rfl ihy .refl ?_
    (repeat refine A.s rfl ?_)
    refine A.valE 7 rfl (x' := AI ((i + 1 : Nat) : Int)) (inc_eq i (by have := hwa.ll; omega)) ?_
    refine A.sub (by repeat (first | exact trivial | refine ⟨⟨_, rfl, .refl⟩, ?_⟩)) (ih (i + 1, leftI k (high || ((p.kind == 11) && decide (i = 0))) (deep + 1) y lf) ⟨by show i + 1 ≤ _; omega, ?_⟩ (by show _ - (i + 1) < _ - i; omega))
    by_cases hfx : fitsR k.vars k.chans.length (high || ((p.kind == 11) && decide (i = 0))) y lf (32 - (deep + 1))
    · refine .inl ⟨hsn.2 hfx, ?_⟩
      show leftI k (high || ((p.kind == 11) && decide (i = 0))) (deep + 1) y lf = n - 1 - (szL (p.l.take (i + 1)) : Nat)
      rw [leftI, if_pos hfx, htk, szL_append, hi3]; simp [szL]; omega
    · exact .inr ⟨if_neg hfx, fun hf => hfx (hsn.1 (fitsPs_take (hfl.1 hf).1 (i + 1)))⟩
  have hc : ¬ i < p.l.length := by simpa using hc
  have hil : i = p.l.length := by omega
  rw [hil, List.take_length] at hi2 hi3
  have hszl := hi2.2.1
  (repeat refine A.s rfl ?_)
  refine A.keep [2, 3, 4, 8] rfl ?_
  refine A.loopP (ι := Nat × Int) (fun q => (⟨[(2, AI q.2), (3, ptrA _), (4, ptrA _), (8, AI (q.1 : Nat))], []⟩, [.box _ (cellsR p), .box _ (innA k deep high)]))
    (fun q => q.1 ≤ p.gs.length ∧ ((fitsGs k.vars k.chans.length high (p.gs.take q.1) (n - 1 - (szL p.l : Nat)) (32 - (deep + 1)) ∧ q.2 = n - 1 - (szL p.l : Nat) - (szGs (p.gs.take q.1) : Nat)) ∨ (q.2 = -1 ∧ ¬ fitsR k.vars k.chans.length high p n (32 - deep)))) (fun q => p.gs.length - q.1) (0, lf) ⟨Nat.zero_le _, .inl ⟨⟨by simp [okGs], by simp [szGs]; omega, by simp [htGs]; omega⟩, by simp [szGs]; omega⟩⟩ rfl fun q hj jh => ?_
  obtain ⟨j, lg⟩ := q
  obtain ⟨hj1, hj2⟩ := hj
  simp only at hj1 hj2
  by_cases hlg : lg < 0
  · have hneg : lg = -1 ∧ ¬ fitsR k.vars k.chans.length high p n (32 - deep) := by
      rcases hj2 with ⟨hf, he⟩ | h
      · have := hf.2.1; omega
      · exact h
    have hnf := hneg.2
    have hlg1 := hneg.1
    subst hlg1
    (repeat first|refine A.s rfl ?_|refine A.r rfl rfl ?_|refine A.step rfl ?_)
    refine A.valE 82 rfl (x' := AB false) (ab_eq (by simp)) ?_
    (repeat refine A.s rfl ?_); refine A.ret1 (Λ' := []) rfl rfl rfl (List.nil_sublist _) ⟨?_, rfl⟩; exact Sb.eq (ai_eq (if_neg hnf).symm)
  have hpos : fitsGs k.vars k.chans.length high (p.gs.take j) (n - 1 - (szL p.l : Nat)) (32 - (deep + 1)) ∧ lg = n - 1 - (szL p.l : Nat) - (szGs (p.gs.take j) : Nat) := by
    rcases hj2 with h | h
    · exact h
    · omega
  clear hj2
  obtain ⟨hj2, hj3⟩ := hpos
  have hsz3 := hj2.2.1
  (repeat first|refine A.s rfl ?_|refine A.r rfl rfl ?_|refine A.step rfl ?_)
  refine A.valE 82 rfl (x' := AB (decide (j < p.gs.length))) (ab_eq (by rw [n2, Bool.eq_iff_iff]; simp; omega)) ?_
  refine A.cond rfl (fun hc => ?_) (fun hc => ?_)
  · have hc : j < p.gs.length := by simpa using hc
    refine Exists.elim (at_exN (l := p.gs) (i := j) (by omega)) fun g hg => ?_
    have hgm := List.mem_of_getElem? hg
    refine Exists.elim (hbod g hgm) fun y hy => ?_
    have htk : p.gs.take (j + 1) = p.gs.take j ++ [g] := by rw [List.take_add_one, hg]; rfl
    have hsn := fitsGs_snoc hy hj2
    rw [← htk, ← hj3] at hsn
    have hszy : szR y ≤ szGs p.gs := by have := szGs_le hgm; rw [szG_eq, hy, szL, szL] at this; omega
    have ihy := ih0 y high lg ((wfG_all (hwa.g g hgm)).body y (by rw [hy]; exact List.mem_cons_self ..)) (by omega) (by omega) (by omega)
    unfold leftE at ihy
    (repeat refine A.s rfl ?_)
    refine A.draw 17 [0, 1, 2, 3, 4, 5, 6, 7, 8, 9, 10, 11, 12, 13, 14, 15, 16] noPubs [] (by kernel_rfl) (by kernel_rfl) ?_
    (repeat first|refine WA.s rfl ?_|refine WA.r rfl rfl ?_)
    refine WA.valE 92 rfl (x' := innA k (deep + 1) high) (innA_eq k hw2 rfl) ?_
    refine WA.x rfl (by show (0 : Int) ≤ (j : Nat); omega) (encGl_at hg) (encG_eq g) rfl ?_
    (repeat refine WA.s rfl ?_)
    refine WA.x rfl (by decide) (show (encRl g.body)[(0 : Int).toNat]? = some (encR y) from encRl_at (by rw [hy]; rfl)) (encR_eq y) rfl ?_
    (repeat refine WA.s rfl ?_)
    refine WA.nil (l := []) rfl ?_
    skip
    refine A.c rfl ihy .refl ?_
    (repeat refine A.s rfl ?_)
    refine A.valE 8 rfl (x' := AI ((j + 1 : Nat) : Int)) (inc_eq j (by have := hwa.gl; omega)) ?_
    refine A.sub (by repeat (first | exact trivial | refine ⟨⟨_, rfl, .refl⟩, ?_⟩)) (jh (j + 1, leftI k high (deep + 1) y lg) ⟨by show j + 1 ≤ _; omega, ?_⟩ (by show _ - (j + 1) < _ - j; omega))
    by_cases hfx : fitsR k.vars k.chans.length high y lg (32 - (deep + 1))
    · refine .inl ⟨hsn.2 hfx, ?_⟩
      show leftI k high (deep + 1) y lg = n - 1 - (szL p.l : Nat) - (szGs (p.gs.take (j + 1)) : Nat)
      have e2 : szGs [g] = szR y := by rw [szGs, szGs, szG_eq, hy, szL, szL]; omega
      rw [leftI, if_pos hfx, htk, szGs_append, hj3, e2]; omega
    · exact .inr ⟨if_neg hfx, fun hf => hfx (hsn.1 (fitsGs_take (hfl.1 hf).2 (j + 1)))⟩
  have hc : ¬ j < p.gs.length := by simpa using hc
  have hjl : j = p.gs.length := by omega
  rw [hjl, List.take_length] at hj2 hj3
  (repeat refine A.s rfl ?_); refine A.ret1 (Λ' := []) rfl rfl rfl (List.nil_sublist _) ⟨?_, rfl⟩
  refine Sb.eq (ai_eq ?_)
  rw [leftI, if_pos (hfl.2 ⟨hi2, hj2⟩)]; omega
theorem left_p (k : KN) : ∀ (N : Nat) (p : PR) (deep : Int) (high : Bool) (n : Int), szR p ≤ N → wfR p → 0 ≤ n → n ≤ 2048 → 0 ≤ deep → deep ≤ 32 → leftE k p deep high n
  | 0, p, _, _, _, hn, _, _, _, _, _ => by have := szR_pos p; omega
  | N + 1, p, deep, high, n, hn, hw, r0, r1, d0, d1 => by
    by_cases hz : n = 0 ∨ deep = 32
    · exact left_a k p deep high n hz r0 d1
    cases hlk : looksB p with
    | false => exact left_b k p deep high n hlk
    | true =>
      cases hkb : kindB k.vars k.chans.length p with
      | false => exact left_c k p hw deep high n hlk hkb
      | true =>
        cases hh : (high && p.kind == 11) with
        | true =>
          simp only [Bool.and_eq_true, beq_iff_eq] at hh
          rw [hh.1]
          exact left_d k p hw deep n hlk hkb hh.2
        | false => exact left_e k p hw deep high n (by omega) r1 d0 (by omega) hlk hkb hh fun y hi lf hwy hsz l0 l1 => left_p k N y (deep + 1) hi lf (by omega) hwy l0 l1 (by omega) (by omega)
end Go.Proofs.YtgmeahcclogfmaaGreatDoor
/-!
  Layer 16: May, by the reference.
-/
namespace Go.Proofs.YtgmeahcclogfmaaGreatDoor
open Go Go.Tp
set_option linter.unusedVariables false
set_option linter.unusedSimpArgs false
set_option maxRecDepth 100000
set_option maxHeartbeats 4000000
def finK (k : KN) : Bool := k.root.kind == 10 && k.root.l.length == k.procs.length
def placedK (k : KN) : Bool := k.procs.length == 0 || (okPr [] k.procs && finK k)
theorem placed_a (k : KN) (h : k.procs.length = 0) : Pure Tryz.prog gs0 35 [encN k] (AB true) := by
  have n3 : ((k.procs.map AI).length : Int) = k.procs.length := by rw [List.length_map]
  refine Pure.of (S := tt) (fn := Tryz.f35) (n := 60) tt_ok Tryz.func35 rfl rfl rfl rfl fun w0 h0 F hgs => ?_
  (repeat first|refine A.s rfl ?_|refine A.r rfl rfl ?_|refine A.b rfl fun bx=>?_)
  refine A.valE 8 rfl (x' := AB true) (ab_eq (by rw [n3, h]; rfl)) ?_
  (repeat refine A.s rfl ?_); refine A.ret1 (Λ' := []) rfl rfl rfl (List.nil_sublist _) ⟨?_, rfl⟩; exact .refl
theorem placed_b (k : KN) (hw : WfN k) (h : k.procs.length ≠ 0) (R : Bool) (hR : (okPr [] k.procs && finK k) = R) : Pure Tryz.prog gs0 35 [encN k] (AB R) := by
  have n3 : ((k.procs.map AI).length : Int) = k.procs.length := by rw [List.length_map]
  have n4 : ((encRl k.root.l).length : Int) = k.root.l.length := by rw [encRl_len]
  have hpl := hw.procs
  refine Pure.of (S := tt) (fn := Tryz.f35) (n := 60) tt_ok Tryz.func35 rfl rfl rfl rfl fun w0 h0 F hgs => ?_
  (repeat first|refine A.s rfl ?_|refine A.r rfl rfl ?_|refine A.b rfl fun bx=>?_)
  refine A.valE 8 rfl (x' := AB false) (ab_eq (by rw [n3]; exact beq_eq_false_iff_ne.2 (by omega))) ?_
  (repeat refine A.s rfl ?_)
  refine A.keep [1, 3] rfl ?_
  refine A.loopP (ι := Nat) (fun i => (⟨[(1, ptrA _), (3, AI (i : Nat))], []⟩, [.box _ (encN k)])) (fun i => i ≤ k.procs.length ∧ (okPr (k.procs.take i) (k.procs.drop i) && finK k) = R) (fun i => k.procs.length - i) 0 ⟨by omega, hR⟩ rfl fun i hi ih => ?_
  (repeat first|refine A.s rfl ?_|refine A.r rfl rfl ?_)
  refine A.valE 13 rfl (x' := AB (decide (i < k.procs.length))) (ab_eq (by rw [n3, Bool.eq_iff_iff]; simp)) ?_
  refine A.cond rfl (fun hc => ?_) (fun hc => ?_)
  · have hc : i < k.procs.length := by simpa using hc
    refine Exists.elim (at_exN (l := k.procs) (i := i) hc) fun v hv => ?_
    have h1 := hi.2
    rw [drop_at hv, okPr] at h1
    have htk : k.procs.take (i + 1) = k.procs.take i ++ [v] := by rw [List.take_add_one, hv]; rfl
    rw [← htk] at h1
    refine Exists.elim (show ∃ R2, R2 = (okPr (k.procs.take (i + 1)) (k.procs.drop (i + 1)) && finK k) from ⟨_, rfl⟩) fun R2 hR2 => ?_
    have h2 : (decide (0 ≤ v) && decide (v < 8) && !(k.procs.take i).contains v && R2) = R := by rw [hR2, ← h1]; simp only [Bool.and_assoc]
    (repeat refine A.s rfl ?_)
    refine A.keep [1, 3, 4] rfl ?_
    refine A.loopP (ι := Nat) (fun j => (⟨[(1, ptrA _), (3, AI (i : Nat)), (4, AI (j : Nat))], []⟩, [.box _ (encN k)])) (fun j => j ≤ i ∧ (k.procs.take i).contains v = ((k.procs.take i).drop j).contains v) (fun j => i - j) 0 ⟨by omega, rfl⟩ rfl fun j hj jh => ?_
    (repeat refine A.s rfl ?_)
    refine A.valE 18 rfl (x' := AB (decide (j < i))) (ab_eq (by rw [Bool.eq_iff_iff]; simp)) ?_
    refine A.cond rfl (fun hc => ?_) (fun hc => ?_)
    · have hd : j < i := by simpa using hc
      refine Exists.elim (at_exN (l := k.procs) (i := j) (by omega)) fun u hu => ?_
      have hut : (k.procs.take i)[j]? = some u := by rw [List.getElem?_take, if_pos hd, hu]
      have h3 := hj.2
      rw [drop_at hut, List.contains_cons] at h3
      (repeat refine A.s rfl ?_)
      refine A.draw 10 [0, 1, 2, 3, 4, 5, 6, 7, 8, 9] noPubs [] (by kernel_rfl) (by kernel_rfl) ?_
      (repeat first|refine WA.s rfl ?_|refine WA.r rfl rfl ?_)
      refine WA.x rfl (by show (0 : Int) ≤ (j : Nat); omega) (map_at hu) rfl rfl ?_
      (repeat first|refine WA.s rfl ?_|refine WA.r rfl rfl ?_)
      refine WA.x rfl (by show (0 : Int) ≤ (i : Nat); omega) (map_at hv) rfl rfl ?_
      (repeat refine WA.s rfl ?_)
      refine WA.nil (l := []) rfl ?_
      (repeat refine A.s rfl ?_)
      refine A.cond rfl (fun hc => ?_) (fun hc => ?_)
      · have he : u = v := by simpa using hc
        rw [he] at h3
        simp only [BEq.rfl, Bool.true_or] at h3
        rw [h3] at h2
        simp only [Bool.not_true, Bool.and_false, Bool.false_and] at h2
        (repeat refine A.s rfl ?_); refine A.ret1 (Λ' := []) rfl rfl rfl (List.nil_sublist _) ⟨?_, rfl⟩; rw [← h2]; exact .refl
      · have he : (v == u) = false := by have : (u == v) = false := hc; rw [beq_eq_false_iff_ne] at this ⊢; exact fun h => this h.symm
        rw [he, Bool.false_or] at h3
        (repeat refine A.s rfl ?_)
        refine A.valE 4 rfl (x' := AI ((j + 1 : Nat) : Int)) (inc_eq j (by omega)) ?_
        refine A.sub (by repeat (first | exact trivial | refine ⟨⟨_, rfl, .refl⟩, ?_⟩)) (jh (j + 1) ⟨by omega, h3⟩ (by omega))
    have hd : ¬ j < i := by simpa using hc
    have hji : j = i := by omega
    have h3 := hj.2
    rw [hji, List.drop_eq_nil_of_le (by rw [List.length_take]; omega), List.contains_nil] at h3
    rw [h3, Bool.not_false, Bool.and_true] at h2
    (repeat first|refine A.s rfl ?_|refine A.r rfl rfl ?_)
    refine A.x rfl (by show (0 : Int) ≤ (i : Nat); omega) (map_at hv) rfl rfl ?_
    (repeat refine A.s rfl ?_)
    ((fail_if_success (refine A.lit? rfl ?_)); refine A.gS rfl (fun hc => ?_) (fun hc => ?_))
    · have hc0 : v < 0 := by simpa using hc
      rw [decide_eq_false (by omega)] at h2
      simp only [Bool.false_and] at h2
      (repeat refine A.s rfl ?_); refine A.ret1 (Λ' := []) rfl rfl rfl (List.nil_sublist _) ⟨?_, rfl⟩; rw [← h2]; exact .refl
    have hc0 : 0 ≤ v := by simpa using hc
    (repeat first|refine A.s rfl ?_|refine A.r rfl rfl ?_)
    refine A.x rfl (by show (0 : Int) ≤ (i : Nat); omega) (map_at hv) rfl rfl ?_
    (repeat refine A.s rfl ?_)
    refine A.cond rfl (fun hc => ?_) (fun hc => ?_)
    · have hc1 : 8 ≤ v := by simpa using hc
      rw [decide_eq_false (p := v < 8) (by omega)] at h2
      simp only [Bool.false_and, Bool.and_false] at h2
      (repeat refine A.s rfl ?_); refine A.ret1 (Λ' := []) rfl rfl rfl (List.nil_sublist _) ⟨?_, rfl⟩; rw [← h2]; exact .refl
    have hc1 : v < 8 := by simpa using hc
    rw [decide_eq_true hc0, decide_eq_true hc1, Bool.true_and, Bool.true_and, hR2] at h2
    (repeat refine A.s rfl ?_)
    refine A.valE 3 rfl (x' := AI ((i + 1 : Nat) : Int)) (inc_eq i (by omega)) ?_
    refine A.sub (by repeat (first | exact trivial | refine ⟨⟨_, rfl, .refl⟩, ?_⟩)) (ih (i + 1) ⟨by omega, h2⟩ (by omega))
  have hc : ¬ i < k.procs.length := by simpa using hc
  have hil : i = k.procs.length := by omega
  have h1 := hi.2
  rw [hil, List.drop_length, okPr, Bool.true_and, finK] at h1
  (repeat first|refine A.s rfl ?_|refine A.r rfl rfl ?_|refine A.step rfl ?_|refine A.v rfl rfl ?_); refine A.ret1 (Λ' := []) rfl rfl rfl (List.nil_sublist _) ⟨?_, rfl⟩
  refine Sb.eq (ab_eq ?_)
  rw [← h1, n3, n4]
  generalize (k.root.kind == 10) = b10
  cases b10 with
  | false => rfl
  | true => clear ih hi h1; rw [Bool.eq_iff_iff]; simp; omega
theorem placed_p (k : KN) (hw : WfN k) : Pure Tryz.prog gs0 35 [encN k] (AB (placedK k)) := by
  unfold placedK
  by_cases h : k.procs.length = 0
  · rw [show (k.procs.length == 0) = true from beq_iff_eq.2 h, Bool.true_or]; exact placed_a k h
  · rw [show (k.procs.length == 0) = false from beq_eq_false_iff_ne.2 h, Bool.false_or]; exact placed_b k hw h _ rfl
end Go.Proofs.YtgmeahcclogfmaaGreatDoor
/-!
  Layer 16: May, by the reference.
-/
namespace Go.Proofs.YtgmeahcclogfmaaGreatDoor
open Go Go.Tp
set_option linter.unusedVariables false
set_option linter.unusedSimpArgs false
set_option maxRecDepth 100000
set_option maxHeartbeats 4000000
theorem mayK_eq (k : KN) : mayK k = (lensK k && placedK k && k.vars.all varOk && okCh 0 k.chans && decide (fitsR k.vars k.chans.length false k.root 2048 32)) := by
  unfold mayK
  have : (rootK k && okPr [] k.procs) = placedK k := by
    unfold rootK placedK finK
    by_cases h : k.procs.length = 0
    · rw [show (k.procs.length == 0) = true from beq_iff_eq.2 h, List.length_eq_zero_iff.1 h]; rfl
    · rw [show (k.procs.length == 0) = false from beq_eq_false_iff_ne.2 h, Bool.false_or, Bool.false_or, Bool.and_comm]
  rw [← this]
  simp only [Bool.and_assoc]
theorem rmay_a (k : KN) (hw : WfN k) (h : (lensK k && placedK k) = false) : Pure Tryz.prog gs0 18 [encN k] (AB false) := by
  have n1 : ((k.vars.map encV).length : Int) = k.vars.length := by rw [List.length_map]
  have n2 : ((k.chans.map AU8).length : Int) = k.chans.length := by rw [List.length_map]
  have hpc := placed_p k hw
  refine Pure.of (S := tt) (fn := Tryz.f18) (n := 86) tt_ok Tryz.func18 rfl rfl rfl rfl fun w0 h0 F hgs => ?_
  (repeat first|refine A.s rfl ?_|refine A.r rfl rfl ?_|refine A.b rfl fun bx=>?_|refine A.step rfl ?_|refine A.v rfl rfl ?_)
  refine A.valE 22 rfl (x' := AB (!lensK k)) (ab_eq ?_) ?_
  · rw [n1, n2, lensK, Bool.eq_iff_iff]; simp; omega
  cases hlk : lensK k with
  | false => (repeat refine A.s rfl ?_); refine A.ret1 (Λ' := []) rfl rfl rfl (List.nil_sublist _) ⟨?_, rfl⟩; exact .refl
  | true =>
    rw [hlk, Bool.true_and] at h
    rw [h] at hpc
    skip
    refine A.c rfl hpc .refl ?_
    (repeat refine A.s rfl ?_); refine A.ret1 (Λ' := []) rfl rfl rfl (List.nil_sublist _) ⟨?_, rfl⟩; exact .refl
theorem rmay_b (k : KN) (hw : WfN k) (h : (lensK k && placedK k) = true) (R : Bool) (hR : (k.vars.all varOk && (okCh 0 k.chans && decide (fitsR k.vars k.chans.length false k.root 2048 32))) = R) : Pure Tryz.prog gs0 18 [encN k] (AB R) := by
  have n1 : ((k.vars.map encV).length : Int) = k.vars.length := by rw [List.length_map]
  have n2 : ((k.chans.map AU8).length : Int) = k.chans.length := by rw [List.length_map]
  rw [Bool.and_eq_true] at h
  have hlk : k.vars.length ≤ 256 ∧ 2 ≤ k.chans.length ∧ k.chans.length ≤ 64 := by have := h.1; simp only [lensK, Bool.and_eq_true, decide_eq_true_eq] at this; omega
  have hpc := placed_p k hw
  rw [h.2] at hpc
  refine Exists.elim (show ∃ R2, R2 = (okCh 0 k.chans && decide (fitsR k.vars k.chans.length false k.root 2048 32)) from ⟨_, rfl⟩) fun R2 hR2 => ?_
  rw [← hR2] at hR
  refine Pure.of (S := tt) (fn := Tryz.f18) (n := 86) tt_ok Tryz.func18 rfl rfl rfl rfl fun w0 h0 F hgs => ?_
  (repeat first|refine A.s rfl ?_|refine A.r rfl rfl ?_|refine A.b rfl fun bx=>?_|refine A.step rfl ?_|refine A.v rfl rfl ?_)
  refine A.valE 22 rfl (x' := AB false) (ab_eq ?_) ?_
  · rw [n1, n2, Bool.eq_iff_iff]; simp; omega
  skip
  refine A.c rfl hpc .refl ?_
  (repeat refine A.s rfl ?_)
  refine A.keep [1, 3] rfl ?_
  refine A.loopP (ι := Nat) (fun i => (⟨[(1, ptrA _), (3, AI (i : Nat))], []⟩, [.box _ (encN k)])) (fun i => i ≤ k.vars.length ∧ ((k.vars.drop i).all varOk && R2) = R) (fun i => k.vars.length - i) 0 ⟨by omega, hR⟩ rfl fun j hi ih => ?_
  (repeat first|refine A.s rfl ?_|refine A.r rfl rfl ?_)
  refine A.valE 31 rfl (x' := AB (decide (j < k.vars.length))) (ab_eq (by rw [n1, Bool.eq_iff_iff]; simp)) ?_
  refine A.cond rfl (fun hc => ?_) (fun hc => ?_)
  · have hc : j < k.vars.length := by simpa using hc
    refine Exists.elim (at_exN (l := k.vars) (i := j) (by omega)) fun v hv => ?_
    have h2 := hi.2
    rw [drop_at hv, List.all_cons, varOk] at h2
    (repeat first|refine A.s rfl ?_|refine A.r rfl rfl ?_)
    refine A.x rfl (by show (0 : Int) ≤ (j : Nat); omega) (map_at hv) rfl rfl ?_
    (repeat refine A.s rfl ?_)
    refine A.c rfl (rprim_p v.kind) .refl ?_
    (repeat refine A.s rfl ?_)
    ((fail_if_success (refine A.lit? rfl ?_)); refine A.gS rfl (fun hc => ?_) (fun hc => ?_))
    · have hc0 : primB v.kind = false := by simpa using hc
      rw [hc0] at h2
      (repeat refine A.s rfl ?_); refine A.ret1 (Λ' := []) rfl rfl rfl (List.nil_sublist _) ⟨?_, rfl⟩; rw [← h2]; exact .refl
    have hc0 : primB v.kind = true := by simpa using hc
    (repeat first|refine A.s rfl ?_|refine A.r rfl rfl ?_)
    refine A.x rfl (by show (0 : Int) ≤ (j : Nat); omega) (map_at hv) rfl rfl ?_
    (repeat refine A.s rfl ?_)
    ((fail_if_success (refine A.lit? rfl ?_)); refine A.gS rfl (fun hc => ?_) (fun hc => ?_))
    · have hc1 : v.dim < 0 := by simpa using hc
      rw [decide_eq_false (p := 0 ≤ v.dim) (by omega), Bool.and_false] at h2
      (repeat refine A.s rfl ?_); refine A.ret1 (Λ' := []) rfl rfl rfl (List.nil_sublist _) ⟨?_, rfl⟩; rw [← h2]; exact .refl
    have hc1 : 0 ≤ v.dim := by simpa using hc
    (repeat first|refine A.s rfl ?_|refine A.r rfl rfl ?_)
    refine A.x rfl (by show (0 : Int) ≤ (j : Nat); omega) (map_at hv) rfl rfl ?_
    (repeat refine A.s rfl ?_)
    refine A.cond rfl (fun hc => ?_) (fun hc => ?_)
    · have hc2 : 64 < v.dim := by simpa using hc
      rw [decide_eq_false (p := v.dim ≤ 64) (by omega), Bool.and_false] at h2
      (repeat refine A.s rfl ?_); refine A.ret1 (Λ' := []) rfl rfl rfl (List.nil_sublist _) ⟨?_, rfl⟩; rw [← h2]; exact .refl
    · have hc2 : v.dim ≤ 64 := by simpa using hc
      rw [hc0, decide_eq_true hc1, decide_eq_true hc2] at h2
      simp only [Bool.true_and] at h2
      (repeat refine A.s rfl ?_)
      refine A.valE 3 rfl (x' := AI ((j + 1 : Nat) : Int)) (inc_eq j (by omega)) ?_
      refine A.sub (by repeat (first | exact trivial | refine ⟨⟨_, rfl, .refl⟩, ?_⟩)) (ih (j + 1) ⟨by omega, h2⟩ (by omega))
  have hc : ¬ j < k.vars.length := by simpa using hc
  have hjl : j = k.vars.length := by omega
  have h2 := hi.2
  rw [hjl, List.drop_length, List.all_nil, Bool.true_and, hR2] at h2
  clear ih hi
  generalize hR3 : decide (fitsR k.vars k.chans.length false k.root 2048 32) = R3 at h2
  have hpr := left_p k (szR k.root) k.root 0 false 2048 (Nat.le_refl _) hw.root (by decide) (by decide) (by decide) (by decide)
  unfold leftE at hpr
  (repeat refine A.s rfl ?_)
  refine A.keep [1, 4] rfl ?_
  refine A.loopP (ι := Nat) (fun i => (⟨[(1, ptrA _), (4, AI (i : Nat))], []⟩, [.box _ (encN k)])) (fun i => i ≤ k.chans.length ∧ (okCh i (k.chans.drop i) && R3) = R) (fun i => k.chans.length - i) 0 ⟨by omega, h2⟩ rfl fun m hi ih => ?_
  (repeat first|refine A.s rfl ?_|refine A.r rfl rfl ?_)
  refine A.valE 64 rfl (x' := AB (decide (m < k.chans.length))) (ab_eq (by rw [n2, Bool.eq_iff_iff]; simp)) ?_
  refine A.cond rfl (fun hc => ?_) (fun hc => ?_)
  · have hc : m < k.chans.length := by simpa using hc
    refine Exists.elim (at_exN (l := k.chans) (i := m) (by omega)) fun v hv => ?_
    have h3 := hi.2
    rw [drop_at hv, okCh] at h3
    by_cases m0 : m = 0
    · subst m0
      rw [show wantH 0 = 1 from rfl] at h3
      (repeat first|refine A.s rfl ?_|refine A.t rfl fun bl=>?_)
      refine A.x rfl (by decide) rfl rfl rfl ?_
      (repeat first|refine A.s rfl ?_|refine A.r rfl rfl ?_)
      refine A.x rfl (by decide) (map_at hv) rfl rfl ?_
      (repeat refine A.s rfl ?_)
      refine A.cond rfl (fun hc => ?_) (fun hc => ?_)
      · have hc : (v != 1) = true := hc
        have hv1 : (v == 1) = false := by simpa using hc
        rw [hv1] at h3
        (repeat refine A.s rfl ?_); refine A.ret1 (Λ' := []) rfl rfl rfl (List.nil_sublist _) ⟨?_, rfl⟩; rw [← h3]; exact .refl
      · have hc : (v != 1) = false := hc
        have hv1 : (v == 1) = true := by simpa using hc
        rw [hv1, Bool.true_and] at h3
        (repeat refine A.s rfl ?_)
        refine A.sub (by repeat (first | exact trivial | refine ⟨⟨_, rfl, .refl⟩, ?_⟩)) (ih 1 ⟨by omega, h3⟩ (by omega))
    by_cases m1 : m = 1
    · subst m1
      rw [show wantH 1 = 2 from rfl] at h3
      (repeat first|refine A.s rfl ?_|refine A.t rfl fun bl=>?_)
      refine A.x rfl (by decide) rfl rfl rfl ?_
      (repeat first|refine A.s rfl ?_|refine A.r rfl rfl ?_)
      refine A.x rfl (by decide) (map_at hv) rfl rfl ?_
      (repeat refine A.s rfl ?_)
      refine A.cond rfl (fun hc => ?_) (fun hc => ?_)
      · have hc : (v != 2) = true := hc
        have hv1 : (v == 2) = false := by simpa using hc
        rw [hv1] at h3
        (repeat refine A.s rfl ?_); refine A.ret1 (Λ' := []) rfl rfl rfl (List.nil_sublist _) ⟨?_, rfl⟩; rw [← h3]; exact .refl
      · have hc : (v != 2) = false := hc
        have hv1 : (v == 2) = true := by simpa using hc
        rw [hv1, Bool.true_and] at h3
        (repeat refine A.s rfl ?_)
        refine A.sub (by repeat (first | exact trivial | refine ⟨⟨_, rfl, .refl⟩, ?_⟩)) (ih 2 ⟨by omega, h3⟩ (by omega))
    · rw [show wantH m = 0 by simp [wantH, m0, m1]] at h3
      (repeat refine A.s rfl ?_)
      refine A.valE 68 rfl (x' := AB false) (ab_eq (by simp; omega)) ?_
      (repeat first|refine A.s rfl ?_|refine A.r rfl rfl ?_)
      refine A.x rfl (by show (0 : Int) ≤ (m : Nat); omega) (map_at hv) rfl rfl ?_
      (repeat refine A.s rfl ?_)
      refine A.cond rfl (fun hc => ?_) (fun hc => ?_)
      · have hc : (v != 0) = true := hc
        have hv1 : (v == 0) = false := by simpa using hc
        rw [hv1] at h3
        (repeat refine A.s rfl ?_); refine A.ret1 (Λ' := []) rfl rfl rfl (List.nil_sublist _) ⟨?_, rfl⟩; rw [← h3]; exact .refl
      · have hc : (v != 0) = false := hc
        have hv1 : (v == 0) = true := by simpa using hc
        rw [hv1, Bool.true_and] at h3
        (repeat refine A.s rfl ?_)
        refine A.valE 4 rfl (x' := AI ((m + 1 : Nat) : Int)) (inc_eq m (by omega)) ?_
        refine A.sub (by repeat (first | exact trivial | refine ⟨⟨_, rfl, .refl⟩, ?_⟩)) (ih (m + 1) ⟨by omega, h3⟩ (by omega))
  have hc : ¬ m < k.chans.length := by simpa using hc
  have hml : m = k.chans.length := by omega
  have h3 := hi.2
  rw [hml, List.drop_length, okCh, Bool.true_and] at h3
  clear ih hi
  (repeat first|refine A.s rfl ?_|refine A.r rfl rfl ?_)
  refine A.c rfl hpr .refl ?_
  (repeat refine A.s rfl ?_); refine A.ret1 (Λ' := []) rfl rfl rfl (List.nil_sublist _) ⟨?_, rfl⟩; refine Sb.eq (ab_eq ?_); rw [← h3, ← hR3, leftI, show (32 : Int) - 0 = 32 from rfl]
  by_cases hf : fitsR k.vars k.chans.length false k.root 2048 32
  · rw [if_pos hf, decide_eq_true hf]; have := hf.2.1; simp; omega
  · rw [if_neg hf, decide_eq_false hf]; rfl
theorem rmay16_p (k : KN) (hw : WfN k) : Pure Tryz.prog gs0 18 [encN k] (AB (mayK k)) := by
  rw [mayK_eq]
  by_cases h : (lensK k && placedK k) = true
  · rw [h, Bool.true_and, Bool.and_assoc]; exact rmay_b k hw h _ rfl
  · have h : (lensK k && placedK k) = false := by simpa using h
    rw [h, Bool.false_and, Bool.false_and, Bool.false_and]; exact rmay_a k hw h
end Go.Proofs.YtgmeahcclogfmaaGreatDoor
/-!
  Chapter 23: the last process of a sequence that clears, by both texts.
-/
namespace Go.Proofs.YtgmeahcclogfmaaGreatDoor
open Go Go.Tp
set_option linter.unusedVariables false
set_option linter.unusedSimpArgs false
set_option maxRecDepth 100000
set_option maxHeartbeats 4000000
theorem idxR_p {gs : Ua} (f : FuncId) (c : List AV) (p : PR → Bool) (l : List PR) (hcb : ∀ g, g ∈ l → Pure Tryz.prog gs f (cellsR g :: c) (AB (p g))) (hb : l.length ≤ 281474976710656) :
    Pure Tryz.prog gs 40 [rsA l, .fn f [] c] (AI (idxF p l 0)) := by
  refine Pure.of (S := tt) (fn := Tryz.f40) (n := 19) tt_ok Tryz.func40 rfl rfl rfl rfl fun w0 h0 F hgs => ?_
  (repeat refine A.s rfl ?_)
  refine A.valE 7 rfl (x' := AI (l.length : Nat)) (ai_eq (by rw [encRl_len])) ?_
  refine A.keep [0, 1, 7, 8] rfl ?_
  refine A.loopP (ι := Nat) (fun i => (⟨[(0, rsA l), (1, .fn f [] c), (7, AI (l.length : Nat)), (8, AI (i : Int))], []⟩, [])) (fun i => i ≤ l.length ∧ idxF p l 0 = idxF p (l.drop i) i) (fun i => l.length - i) 0 ⟨by omega, rfl⟩ rfl fun i hi ih => ?_
  (repeat refine A.s rfl ?_)
  refine A.cond rfl (fun hc => ?_) (fun hc => ?_)
  · simp at hc
    refine Exists.elim (at_exN (l := l) (i := i) hc) fun x hx => ?_
    have hx1 := hcb x (List.mem_of_getElem? hx)
    (repeat refine A.s rfl ?_)
    refine A.x rfl (by omega) (encRl_at hx) (encR_eq x) rfl ?_
    (repeat refine A.s rfl ?_)
    refine A.c rfl hx1 SbL.refl ?_
    have h1 := hi.2
    rw [drop_at hx, idxF] at h1
    cases hp : p x with
    | true =>
      rw [hp] at h1
      (repeat refine A.s rfl ?_); refine A.ret1 (Λ' := []) rfl rfl rfl (List.nil_sublist _) ⟨?_, rfl⟩; rw [h1]; exact .refl
    | false =>
      rw [hp] at h1
      (repeat refine A.s rfl ?_)
      refine A.valE 8 rfl (x' := AI ((i + 1 : Nat) : Int)) (inc_eq i (by omega)) ?_
      refine A.sub (by repeat (first | exact trivial | refine ⟨⟨_, rfl, .refl⟩, ?_⟩)) (ih (i + 1) ⟨by omega, h1⟩ (by omega))
  · simp at hc
    have : i = l.length := by omega
    subst this
    (repeat refine A.s rfl ?_); refine A.ret1 (Λ' := []) rfl rfl rfl (List.nil_sublist _) ⟨?_, rfl⟩; rw [hi.2, List.drop_length]; exact .refl
theorem hasR_p {gs : Ua} (f : FuncId) (c : List AV) (p : PR → Bool) (l : List PR) (hcb : ∀ g, g ∈ l → Pure Tryz.prog gs f (cellsR g :: c) (AB (p g))) (hb : l.length ≤ 281474976710656) :
    Pure Tryz.prog gs 25 [rsA l, .fn f [] c] (AB (l.any p)) := by
  refine Pure.of (S := tt) (fn := Tryz.f25) (n := 9) tt_ok Tryz.func25 rfl rfl rfl rfl fun w0 h0 F hgs => ?_
  (repeat refine A.s rfl ?_)
  refine A.c rfl (idxR_p f c p l hcb hb) .refl ?_
  (repeat refine A.s rfl ?_); refine A.ret1 (Λ' := []) rfl rfl rfl (List.nil_sublist _) ⟨?_, rfl⟩; refine Sb.eq (ab_eq ?_); exact idxF_any p l 0
/-! ### last -/
def unclear (p : PR) : Bool := p.kind != 3
theorem lastf_p (p : PR) : Pure Tryz.prog gs0 26 [cellsR p] (AB (unclear p)) := by
  refine Pure.of (S := tt) (fn := Tryz.f26) (n := 6) tt_ok Tryz.func26 rfl rfl rfl rfl fun w0 h0 F hgs => ?_
  (repeat first|refine A.s rfl ?_|refine A.r rfl rfl ?_|refine A.b rfl fun bx=>?_); refine A.ret1 (Λ' := []) rfl rfl rfl (List.nil_sublist _) ⟨?_, rfl⟩; exact .refl
def clearB (p : PR) : Bool := p.kind == 9 && (decide (0 < p.l.length) && !(p.l.take (p.l.length - 1)).any unclear)
def lastR (p : PR) : PR := if clearB p = true then p.l[p.l.length - 1]?.getD p else p
theorem lastR_yes {p y : PR} (h : clearB p = true) (hy : p.l[p.l.length - 1]? = some y) : lastR p = y := by rw [lastR, if_pos h, hy]; rfl
theorem lastR_no {p : PR} (h : clearB p = false) : lastR p = p := if_neg (by rw [h]; simp)
theorem last_a (p : PR) (kind : Int) (h : clearB p = false) (hl : p.l.length ≤ 281474976710656) : Pure Tryz.prog gs0 13 [cellsR p, AU8 kind] (.tp [cellsR p, AB (p.kind == kind)]) := by
  have n1 : ((encRl p.l).length : Int) = p.l.length := by rw [encRl_len]
  by_cases h9 : p.kind = 9
  case neg =>
    have h9b : (p.kind == 9) = false := beq_eq_false_iff_ne.2 h9
    refine Pure.of (S := tt) (fn := Tryz.f13) (n := 37) tt_ok Tryz.func13 rfl rfl rfl rfl fun w0 h0 F hgs => ?_
    (repeat first|refine A.s rfl ?_|refine A.r rfl rfl ?_|refine A.b rfl fun bx=>?_)
    refine A.valE 13 rfl (x' := AB false) (ab_eq h9b) ?_
    (repeat refine A.s rfl ?_)
    refine A.drawO 4 5 6 [0, 1, 2, 3, 4, 5] (fun i => if i = 5 then [5] else []) [] rfl (by decide) rfl (by kernel_rfl) ?_
    (repeat first|refine WA.s rfl ?_|refine WA.r rfl rfl ?_)
    refine WA.store rfl rfl rfl rfl rfl rfl rfl rfl rfl rfl ?_
    refine WA.nil (l := [_]) rfl ?_
    (repeat refine A.s rfl ?_)
    refine A.retN (Λ' := []) rfl rfl (ResA.cell rfl rfl rfl (ResA.tmp rfl ResA.nil)) (List.nil_sublist _) ⟨?_, rfl⟩
    exact .refl
  have h9b : (p.kind == 9) = true := beq_iff_eq.2 h9
  rw [clearB, h9b, Bool.true_and] at h
  by_cases h0 : 0 < p.l.length
  case neg =>
    refine Pure.of (S := tt) (fn := Tryz.f13) (n := 37) tt_ok Tryz.func13 rfl rfl rfl rfl fun w0 h0 F hgs => ?_
    (repeat first|refine A.s rfl ?_|refine A.r rfl rfl ?_|refine A.b rfl fun bx=>?_)
    refine A.valE 13 rfl (x' := AB true) (ab_eq h9b) ?_
    (repeat refine A.s rfl ?_)
    refine A.valE 17 rfl (x' := AB false) (ab_eq (by rw [n1]; exact decide_eq_false (by omega))) ?_
    (repeat refine A.s rfl ?_)
    refine A.drawO 4 5 6 [0, 1, 2, 3, 4, 5] (fun i => if i = 5 then [5] else []) [] rfl (by decide) rfl (by kernel_rfl) ?_
    (repeat first|refine WA.s rfl ?_|refine WA.r rfl rfl ?_)
    refine WA.store rfl rfl rfl rfl rfl rfl rfl rfl rfl rfl ?_
    refine WA.nil (l := [_]) rfl ?_
    (repeat refine A.s rfl ?_)
    refine A.retN (Λ' := []) rfl rfl (ResA.cell rfl rfl rfl (ResA.tmp rfl ResA.nil)) (List.nil_sublist _) ⟨?_, rfl⟩
    exact .refl
  rw [decide_eq_true h0, Bool.true_and] at h
  have hcf := hasR_p 26 [] unclear (p.l.take (p.l.length - 1)) (fun g _ => lastf_p g) (by rw [List.length_take]; omega)
  have hu : (p.l.take (p.l.length - 1)).any unclear = true := by simpa using h
  rw [hu] at hcf
  have hwr : IntKind.i64.wrap ((p.l.length : Int) - 1) = ((p.l.length - 1 : Nat) : Int) := by rw [wr64 _ (by omega)]; omega
  refine Pure.of (S := tt) (fn := Tryz.f13) (n := 37) tt_ok Tryz.func13 rfl rfl rfl rfl fun w0 h0 F hgs => ?_
  (repeat first|refine A.s rfl ?_|refine A.r rfl rfl ?_|refine A.b rfl fun bx=>?_)
  refine A.valE 13 rfl (x' := AB true) (ab_eq h9b) ?_
  (repeat refine A.s rfl ?_)
  refine A.valE 17 rfl (x' := AB true) (ab_eq (by rw [n1]; simp; omega)) ?_
  (repeat first|refine A.s rfl ?_|refine A.r rfl rfl ?_)
  refine A.valE 21 rfl (x' := AI ((p.l.length - 1 : Nat) : Int)) (ai_eq (by rw [n1]; exact hwr)) ?_
  refine A.slice (ys := encRl (p.l.take (p.l.length - 1))) rfl rfl rfl rfl rfl rfl rfl rfl rfl (by decide) (by omega) (by rw [encRl_len]; omega) (by simp [encRl_map, List.map_take]) rfl ?_
  skip
  refine A.c rfl hcf .refl ?_
  (repeat refine A.s rfl ?_)
  refine A.drawO 4 5 6 [0, 1, 2, 3, 4, 5] (fun i => if i = 5 then [5] else []) [] rfl (by decide) rfl (by kernel_rfl) ?_
  (repeat first|refine WA.s rfl ?_|refine WA.r rfl rfl ?_)
  refine WA.store rfl rfl rfl rfl rfl rfl rfl rfl rfl rfl ?_
  refine WA.nil (l := [_]) rfl ?_
  (repeat refine A.s rfl ?_)
  refine A.retN (Λ' := []) rfl rfl (ResA.cell rfl rfl rfl (ResA.tmp rfl ResA.nil)) (List.nil_sublist _) ⟨?_, rfl⟩
  exact .refl
theorem last_b (p y : PR) (kind : Int) (h : clearB p = true) (hy : p.l[p.l.length - 1]? = some y) (hl : p.l.length ≤ 281474976710656) : Pure Tryz.prog gs0 13 [cellsR p, AU8 kind] (.tp [cellsR y, AB (y.kind == kind)]) := by
  have n1 : ((encRl p.l).length : Int) = p.l.length := by rw [encRl_len]
  simp only [clearB, Bool.and_eq_true, decide_eq_true_eq, Bool.not_eq_true'] at h
  obtain ⟨h9b, h0, hu⟩ := h
  have hcf := hasR_p 26 [] unclear (p.l.take (p.l.length - 1)) (fun g _ => lastf_p g) (by rw [List.length_take]; omega)
  rw [hu] at hcf
  have hwr : IntKind.i64.wrap ((p.l.length : Int) - 1) = ((p.l.length - 1 : Nat) : Int) := by rw [wr64 _ (by omega)]; omega
  refine Pure.of (S := tt) (fn := Tryz.f13) (n := 37) tt_ok Tryz.func13 rfl rfl rfl rfl fun w0 h0 F hgs => ?_
  (repeat first|refine A.s rfl ?_|refine A.r rfl rfl ?_|refine A.b rfl fun bx=>?_)
  refine A.valE 13 rfl (x' := AB true) (ab_eq h9b) ?_
  (repeat refine A.s rfl ?_)
  refine A.valE 17 rfl (x' := AB true) (ab_eq (by rw [n1]; simp; omega)) ?_
  (repeat first|refine A.s rfl ?_|refine A.r rfl rfl ?_)
  refine A.valE 21 rfl (x' := AI ((p.l.length - 1 : Nat) : Int)) (ai_eq (by rw [n1]; exact hwr)) ?_
  refine A.slice (ys := encRl (p.l.take (p.l.length - 1))) rfl rfl rfl rfl rfl rfl rfl rfl rfl (by decide) (by omega) (by rw [encRl_len]; omega) (by simp [encRl_map, List.map_take]) rfl ?_
  skip
  refine A.c rfl hcf .refl ?_
  (repeat first|refine A.s rfl ?_|refine A.r rfl rfl ?_)
  refine A.valE 29 rfl (x' := AI ((p.l.length - 1 : Nat) : Int)) (ai_eq (by rw [n1]; exact hwr)) ?_
  refine A.x rfl (by omega) (encRl_at hy) (encR_eq y) rfl ?_
  (repeat first|refine A.s rfl ?_|refine A.w rfl rfl ?_)
  refine A.drawO 4 5 6 [0, 1, 2, 3, 4, 5] (fun i => if i = 5 then [5] else []) [] rfl (by decide) rfl (by kernel_rfl) ?_
  (repeat first|refine WA.s rfl ?_|refine WA.r rfl rfl ?_)
  refine WA.store rfl rfl rfl rfl rfl rfl rfl rfl rfl rfl ?_
  refine WA.nil (l := [_]) rfl ?_
  (repeat refine A.s rfl ?_)
  refine A.retN (Λ' := []) rfl rfl (ResA.cell rfl rfl rfl (ResA.tmp rfl ResA.nil)) (List.nil_sublist _) ⟨?_, rfl⟩
  exact .refl
theorem lastp_at {p : PR} (h : clearB p = true) : ∃ y, p.l[p.l.length - 1]? = some y := by
  simp only [clearB, Bool.and_eq_true, decide_eq_true_eq] at h
  exact at_exN (by omega)
theorem last_p (p : PR) (kind : Int) (hl : p.l.length ≤ 281474976710656) : Pure Tryz.prog gs0 13 [cellsR p, AU8 kind] (.tp [cellsR (lastR p), AB ((lastR p).kind == kind)]) := by
  cases h : clearB p with
  | false => rw [lastR_no h]; exact last_a p kind h hl
  | true =>
    obtain ⟨y, hy⟩ := lastp_at h
    rw [lastR_yes h hy]; exact last_b p y kind h hy hl
end Go.Proofs.YtgmeahcclogfmaaGreatDoor
/-!
  Chapter 22: what an expression must look like: both texts of it.
-/
namespace Go.Proofs.YtgmeahcclogfmaaGreatDoor.S22
open Go Go.Tp
set_option linter.unusedVariables false
set_option linter.unusedSimpArgs false
set_option maxRecDepth 100000
set_option maxHeartbeats 4000000
theorem retC0 {C : Cfg} {k : List It} {e : Env} {h : GH} {L : List Ent} {p : Nat} {t : TypeId} {b off : Nat} {ti : TI} {x : Ent} {v : Value} (hk : atEnd k = true) (hrd : C.rd = none) (hD : C.D = []) (hr : C.fn.results = #[.cell p t]) (hl : Go.Tp.look e.us p = some (.pointer (some ⟨b, off, none⟩))) (ht : C.S.get t = some ti)
    [i : EntAt L b x] (hv : ldV ti x off = some v) (hR : C.R v h L) : V C k e h L :=
  V.retC (L0 := []) (F0 := L) hk hrd (by rw [hD]; rfl) hr hl ht (i := i) hv hR
noncomputable def cfg (w0 : World) (f : FuncId) (fn : Func) (n : Nat) (R : Value → GH → List Ent → Prop) (hf : Tryz.prog.funcs[f]? = some fn) : Cfg := { P := Tryz.prog, S := tt, w0 := w0, f := f, fn := fn, n := n, R := R, ok := tt_ok, hfn := hf }
def RIs (x : Value) (h : GH) (L : List Ent) : Value → GH → List Ent → Prop := fun v h' L' => v = x ∧ h.le h' ∧ L.Sublist L'
def RRes (h : GH) (L : List Ent) (Q : Value → GH → Prop) : Value → GH → List Ent → Prop := fun v h' L' => h.le h' ∧ L.Sublist L' ∧ Q v h'
def shapeB (e : KE) : Bool :=
  if e.kind = 1 then e.oper == 0 && e.to == 0 && e.v == 0 && e.l.length == 0
  else if e.kind = 2 then e.oper == 0 && e.to == 0 && e.n == 0 && decide (0 ≤ e.v) && decide (e.v ≤ 255) && e.l.length == 0
  else if e.kind = 3 then e.oper == 0 && e.to == 0 && e.n == 0 && decide (0 ≤ e.v) && decide (e.v ≤ 255) && e.l.length == 1
  else if e.kind = 4 then decide (23 ≤ e.oper) && decide (e.oper ≤ 26) && e.to == 0 && e.n == 0 && e.v == 0 && e.l.length == 1
  else if e.kind = 5 then decide (1 ≤ e.oper) && decide (e.oper ≤ 22) && e.to == 0 && e.n == 0 && e.v == 0 && e.l.length == 2
  else if e.kind = 6 then e.oper == 0 && decide (1 ≤ e.to) && decide (e.to ≤ 3) && e.n == 0 && e.v == 0 && e.l.length == 1
  else false
theorem shape_k (e : KE) (h : e.kind ≠ 1) (h2 : e.kind ≠ 2) (h3 : e.kind ≠ 3) (h4 : e.kind ≠ 4) (h5 : e.kind ≠ 5) (h6 : e.kind ≠ 6) : shapeB e = false := by simp [shapeB, *]
theorem plain_does (w0 : World) (h : GH) (L : List Ent) (e : KE) (cs : List Value) (hr : RK h e cs) : Does Tryz.prog w0 81 [.agg ⟨cs⟩] h L (Is (.bool (shapeB e)) h L) := by
  obtain ⟨k, o, t, n, v, l⟩ := e
  simp only [RK] at hr
  obtain ⟨hz, a, cap, rfl, hcap, hl⟩ := hr
  unfold u8 i32 i64 at hz
  refine Does.is (Does.of_V (cfg w0 81 Tryz.f81 107 (RIs (.bool (shapeB ⟨k, o, t, n, v, l⟩)) h L) Tryz.func81) rfl rfl rfl rfl rfl rfl ?_)
  by_cases h1 : k = 1
  · subst h1; (repeat (first | refine V.step rfl ?_ | refine V.load rfl rfl rfl rfl rfl rfl ?_ | refine V.store rfl rfl rfl rfl rfl rfl rfl ?_ | refine V.condT rfl ?_ | refine V.condF rfl ?_)); refine V.box rfl rfl rfl rfl rfl rfl fun be => ?_; (repeat (first | refine V.step rfl ?_ | refine V.load rfl rfl rfl rfl rfl rfl ?_ | refine V.store rfl rfl rfl rfl rfl rfl rfl ?_ | refine V.condT rfl ?_ | refine V.condF rfl ?_)); refine V.alloc rfl rfl rfl rfl rfl rfl fun bx => ?_; (repeat (first | refine V.step rfl ?_ | refine V.load rfl rfl rfl rfl rfl rfl ?_ | refine V.store rfl rfl rfl rfl rfl rfl rfl ?_ | refine V.condT rfl ?_ | refine V.condF rfl ?_)); refine V.ret1 (L0 := []) rfl rfl rfl rfl rfl ⟨?_, GH.le_refl _, (by repeat (first | exact List.Sublist.refl _ | apply List.Sublist.cons))⟩; (refine bool_eq ?_; simp only [shapeB, KE.kind, KE.oper, KE.to, KE.n, KE.v, KE.l]; generalize l.length = len at *; (try simp at h9); simp; omega)
  by_cases h2 : k = 2
  · subst h2; (repeat (first | refine V.step rfl ?_ | refine V.load rfl rfl rfl rfl rfl rfl ?_ | refine V.store rfl rfl rfl rfl rfl rfl rfl ?_ | refine V.condT rfl ?_ | refine V.condF rfl ?_)); refine V.box rfl rfl rfl rfl rfl rfl fun be => ?_; (repeat (first | refine V.step rfl ?_ | refine V.load rfl rfl rfl rfl rfl rfl ?_ | refine V.store rfl rfl rfl rfl rfl rfl rfl ?_ | refine V.condT rfl ?_ | refine V.condF rfl ?_)); refine V.alloc rfl rfl rfl rfl rfl rfl fun bx => ?_; (repeat (first | refine V.step rfl ?_ | refine V.load rfl rfl rfl rfl rfl rfl ?_ | refine V.store rfl rfl rfl rfl rfl rfl rfl ?_ | refine V.condT rfl ?_ | refine V.condF rfl ?_)); refine V.ret1 (L0 := []) rfl rfl rfl rfl rfl ⟨?_, GH.le_refl _, (by repeat (first | exact List.Sublist.refl _ | apply List.Sublist.cons))⟩; (refine bool_eq ?_; simp only [shapeB, KE.kind, KE.oper, KE.to, KE.n, KE.v, KE.l]; generalize l.length = len at *; (try simp at h9); simp; omega)
  by_cases h3 : k = 3
  · subst h3; (repeat (first | refine V.step rfl ?_ | refine V.load rfl rfl rfl rfl rfl rfl ?_ | refine V.store rfl rfl rfl rfl rfl rfl rfl ?_ | refine V.condT rfl ?_ | refine V.condF rfl ?_)); refine V.box rfl rfl rfl rfl rfl rfl fun be => ?_; (repeat (first | refine V.step rfl ?_ | refine V.load rfl rfl rfl rfl rfl rfl ?_ | refine V.store rfl rfl rfl rfl rfl rfl rfl ?_ | refine V.condT rfl ?_ | refine V.condF rfl ?_)); refine V.alloc rfl rfl rfl rfl rfl rfl fun bx => ?_; (repeat (first | refine V.step rfl ?_ | refine V.load rfl rfl rfl rfl rfl rfl ?_ | refine V.store rfl rfl rfl rfl rfl rfl rfl ?_ | refine V.condT rfl ?_ | refine V.condF rfl ?_)); refine V.ret1 (L0 := []) rfl rfl rfl rfl rfl ⟨?_, GH.le_refl _, (by repeat (first | exact List.Sublist.refl _ | apply List.Sublist.cons))⟩; (refine bool_eq ?_; simp only [shapeB, KE.kind, KE.oper, KE.to, KE.n, KE.v, KE.l]; generalize l.length = len at *; (try simp at h9); simp; omega)
  by_cases h4 : k = 4
  · subst h4; (repeat (first | refine V.step rfl ?_ | refine V.load rfl rfl rfl rfl rfl rfl ?_ | refine V.store rfl rfl rfl rfl rfl rfl rfl ?_ | refine V.condT rfl ?_ | refine V.condF rfl ?_)); refine V.box rfl rfl rfl rfl rfl rfl fun be => ?_; (repeat (first | refine V.step rfl ?_ | refine V.load rfl rfl rfl rfl rfl rfl ?_ | refine V.store rfl rfl rfl rfl rfl rfl rfl ?_ | refine V.condT rfl ?_ | refine V.condF rfl ?_)); refine V.alloc rfl rfl rfl rfl rfl rfl fun bx => ?_; (repeat (first | refine V.step rfl ?_ | refine V.load rfl rfl rfl rfl rfl rfl ?_ | refine V.store rfl rfl rfl rfl rfl rfl rfl ?_ | refine V.condT rfl ?_ | refine V.condF rfl ?_))
    refine V.cond rfl (fun h9 => ?_) (fun h9 => ?_)
    · (repeat (first | refine V.step rfl ?_ | refine V.load rfl rfl rfl rfl rfl rfl ?_ | refine V.store rfl rfl rfl rfl rfl rfl rfl ?_ | refine V.condT rfl ?_ | refine V.condF rfl ?_)); refine V.ret1 (L0 := []) rfl rfl rfl rfl rfl ⟨?_, GH.le_refl _, (by repeat (first | exact List.Sublist.refl _ | apply List.Sublist.cons))⟩; (refine bool_eq ?_; simp only [shapeB, KE.kind, KE.oper, KE.to, KE.n, KE.v, KE.l]; generalize l.length = len at *; (try simp at h9); simp; omega)
    · (repeat (first | refine V.step rfl ?_ | refine V.load rfl rfl rfl rfl rfl rfl ?_ | refine V.store rfl rfl rfl rfl rfl rfl rfl ?_ | refine V.condT rfl ?_ | refine V.condF rfl ?_)); refine V.ret1 (L0 := []) rfl rfl rfl rfl rfl ⟨?_, GH.le_refl _, (by repeat (first | exact List.Sublist.refl _ | apply List.Sublist.cons))⟩; (refine bool_eq ?_; simp only [shapeB, KE.kind, KE.oper, KE.to, KE.n, KE.v, KE.l]; generalize l.length = len at *; (try simp at h9); simp; omega)
  by_cases h5 : k = 5
  · subst h5; (repeat (first | refine V.step rfl ?_ | refine V.load rfl rfl rfl rfl rfl rfl ?_ | refine V.store rfl rfl rfl rfl rfl rfl rfl ?_ | refine V.condT rfl ?_ | refine V.condF rfl ?_)); refine V.box rfl rfl rfl rfl rfl rfl fun be => ?_; (repeat (first | refine V.step rfl ?_ | refine V.load rfl rfl rfl rfl rfl rfl ?_ | refine V.store rfl rfl rfl rfl rfl rfl rfl ?_ | refine V.condT rfl ?_ | refine V.condF rfl ?_)); refine V.alloc rfl rfl rfl rfl rfl rfl fun bx => ?_; (repeat (first | refine V.step rfl ?_ | refine V.load rfl rfl rfl rfl rfl rfl ?_ | refine V.store rfl rfl rfl rfl rfl rfl rfl ?_ | refine V.condT rfl ?_ | refine V.condF rfl ?_))
    refine V.cond rfl (fun h9 => ?_) (fun h9 => ?_)
    · (repeat (first | refine V.step rfl ?_ | refine V.load rfl rfl rfl rfl rfl rfl ?_ | refine V.store rfl rfl rfl rfl rfl rfl rfl ?_ | refine V.condT rfl ?_ | refine V.condF rfl ?_)); refine V.ret1 (L0 := []) rfl rfl rfl rfl rfl ⟨?_, GH.le_refl _, (by repeat (first | exact List.Sublist.refl _ | apply List.Sublist.cons))⟩; (refine bool_eq ?_; simp only [shapeB, KE.kind, KE.oper, KE.to, KE.n, KE.v, KE.l]; generalize l.length = len at *; (try simp at h9); simp; omega)
    · (repeat (first | refine V.step rfl ?_ | refine V.load rfl rfl rfl rfl rfl rfl ?_ | refine V.store rfl rfl rfl rfl rfl rfl rfl ?_ | refine V.condT rfl ?_ | refine V.condF rfl ?_)); refine V.ret1 (L0 := []) rfl rfl rfl rfl rfl ⟨?_, GH.le_refl _, (by repeat (first | exact List.Sublist.refl _ | apply List.Sublist.cons))⟩; (refine bool_eq ?_; simp only [shapeB, KE.kind, KE.oper, KE.to, KE.n, KE.v, KE.l]; generalize l.length = len at *; (try simp at h9); simp; omega)
  by_cases h6 : k = 6
  · subst h6; (repeat (first | refine V.step rfl ?_ | refine V.load rfl rfl rfl rfl rfl rfl ?_ | refine V.store rfl rfl rfl rfl rfl rfl rfl ?_ | refine V.condT rfl ?_ | refine V.condF rfl ?_)); refine V.box rfl rfl rfl rfl rfl rfl fun be => ?_; (repeat (first | refine V.step rfl ?_ | refine V.load rfl rfl rfl rfl rfl rfl ?_ | refine V.store rfl rfl rfl rfl rfl rfl rfl ?_ | refine V.condT rfl ?_ | refine V.condF rfl ?_)); refine V.alloc rfl rfl rfl rfl rfl rfl fun bx => ?_; (repeat (first | refine V.step rfl ?_ | refine V.load rfl rfl rfl rfl rfl rfl ?_ | refine V.store rfl rfl rfl rfl rfl rfl rfl ?_ | refine V.condT rfl ?_ | refine V.condF rfl ?_))
    refine V.cond rfl (fun h9 => ?_) (fun h9 => ?_)
    · (repeat (first | refine V.step rfl ?_ | refine V.load rfl rfl rfl rfl rfl rfl ?_ | refine V.store rfl rfl rfl rfl rfl rfl rfl ?_ | refine V.condT rfl ?_ | refine V.condF rfl ?_)); refine V.ret1 (L0 := []) rfl rfl rfl rfl rfl ⟨?_, GH.le_refl _, (by repeat (first | exact List.Sublist.refl _ | apply List.Sublist.cons))⟩; (refine bool_eq ?_; simp only [shapeB, KE.kind, KE.oper, KE.to, KE.n, KE.v, KE.l]; generalize l.length = len at *; (try simp at h9); simp; omega)
    · (repeat (first | refine V.step rfl ?_ | refine V.load rfl rfl rfl rfl rfl rfl ?_ | refine V.store rfl rfl rfl rfl rfl rfl rfl ?_ | refine V.condT rfl ?_ | refine V.condF rfl ?_)); refine V.ret1 (L0 := []) rfl rfl rfl rfl rfl ⟨?_, GH.le_refl _, (by repeat (first | exact List.Sublist.refl _ | apply List.Sublist.cons))⟩; (refine bool_eq ?_; simp only [shapeB, KE.kind, KE.oper, KE.to, KE.n, KE.v, KE.l]; generalize l.length = len at *; (try simp at h9); simp; omega)
  (repeat (first | refine V.step rfl ?_ | refine V.load rfl rfl rfl rfl rfl rfl ?_ | refine V.store rfl rfl rfl rfl rfl rfl rfl ?_ | refine V.condT rfl ?_ | refine V.condF rfl ?_)); refine V.box rfl rfl rfl rfl rfl rfl fun be => ?_; (repeat (first | refine V.step rfl ?_ | refine V.load rfl rfl rfl rfl rfl rfl ?_ | refine V.store rfl rfl rfl rfl rfl rfl rfl ?_ | refine V.condT rfl ?_ | refine V.condF rfl ?_)); refine V.alloc rfl rfl rfl rfl rfl rfl fun bx => ?_; (repeat (first | refine V.step rfl ?_ | refine V.load rfl rfl rfl rfl rfl rfl ?_ | refine V.store rfl rfl rfl rfl rfl rfl rfl ?_ | refine V.condT rfl ?_ | refine V.condF rfl ?_))
  refine V.cond rfl (fun hc => (by simp at hc; omega)) (fun _ => ?_); (repeat (first | refine V.step rfl ?_ | refine V.load rfl rfl rfl rfl rfl rfl ?_ | refine V.store rfl rfl rfl rfl rfl rfl rfl ?_ | refine V.condT rfl ?_ | refine V.condF rfl ?_)); refine V.cond rfl (fun hc => (by simp at hc; omega)) (fun _ => ?_); (repeat (first | refine V.step rfl ?_ | refine V.load rfl rfl rfl rfl rfl rfl ?_ | refine V.store rfl rfl rfl rfl rfl rfl rfl ?_ | refine V.condT rfl ?_ | refine V.condF rfl ?_)); refine V.cond rfl (fun hc => (by simp at hc; omega)) (fun _ => ?_); (repeat (first | refine V.step rfl ?_ | refine V.load rfl rfl rfl rfl rfl rfl ?_ | refine V.store rfl rfl rfl rfl rfl rfl rfl ?_ | refine V.condT rfl ?_ | refine V.condF rfl ?_)); refine V.cond rfl (fun hc => (by simp at hc; omega)) (fun _ => ?_); (repeat (first | refine V.step rfl ?_ | refine V.load rfl rfl rfl rfl rfl rfl ?_ | refine V.store rfl rfl rfl rfl rfl rfl rfl ?_ | refine V.condT rfl ?_ | refine V.condF rfl ?_)); refine V.cond rfl (fun hc => (by simp at hc; omega)) (fun _ => ?_); (repeat (first | refine V.step rfl ?_ | refine V.load rfl rfl rfl rfl rfl rfl ?_ | refine V.store rfl rfl rfl rfl rfl rfl rfl ?_ | refine V.condT rfl ?_ | refine V.condF rfl ?_)); refine V.cond rfl (fun hc => (by simp at hc; omega)) (fun _ => ?_); (repeat (first | refine V.step rfl ?_ | refine V.load rfl rfl rfl rfl rfl rfl ?_ | refine V.store rfl rfl rfl rfl rfl rfl rfl ?_ | refine V.condT rfl ?_ | refine V.condF rfl ?_))
  refine V.ret1 (L0 := []) rfl rfl rfl rfl rfl ⟨?_, GH.le_refl _, (by repeat (first | exact List.Sublist.refl _ | apply List.Sublist.cons))⟩
  rw [shape_k ⟨k, o, t, n, v, l⟩ h1 h2 h3 h4 h5 h6]
end Go.Proofs.YtgmeahcclogfmaaGreatDoor.S22
/-!
  Chapter 22: the small functions: shape, sure, top.
-/
namespace Go.Proofs.YtgmeahcclogfmaaGreatDoor.S22
open Go Go.Tp
set_option linter.unusedVariables false
set_option linter.unusedSimpArgs false
set_option maxRecDepth 100000
set_option maxHeartbeats 4000000
theorem shape_does (w0 : World) (h : GH) (L : List Ent) (e : KE) (cs : List Value) (hr : RK h e cs) : Does Tryz.prog w0 85 [.agg ⟨cs⟩] h L (Is (.bool (shapeB e)) h L) := by
  obtain ⟨k, o, t, n, v, l⟩ := e
  simp only [RK] at hr
  obtain ⟨hz, a, cap, rfl, hcap, hl⟩ := hr
  unfold u8 i32 i64 at hz
  refine Does.is (Does.of_V (cfg w0 85 Tryz.f85 182 (RIs (.bool (shapeB ⟨k, o, t, n, v, l⟩)) h L) Tryz.func85) rfl rfl rfl rfl rfl rfl ?_)
  by_cases h1 : k = 1
  · subst h1; (repeat (first | refine V.step rfl ?_ | refine V.load rfl rfl rfl rfl rfl rfl ?_ | refine V.store rfl rfl rfl rfl rfl rfl rfl ?_ | refine V.condT rfl ?_ | refine V.condF rfl ?_)); refine V.box rfl rfl rfl rfl rfl rfl fun be => ?_; (repeat (first | refine V.step rfl ?_ | refine V.load rfl rfl rfl rfl rfl rfl ?_ | refine V.store rfl rfl rfl rfl rfl rfl rfl ?_ | refine V.condT rfl ?_ | refine V.condF rfl ?_)); refine V.ret1 (L0 := []) rfl rfl rfl rfl rfl ⟨?_, GH.le_refl _, (by repeat (first | exact List.Sublist.refl _ | apply List.Sublist.cons))⟩; (refine bool_eq ?_; simp only [shapeB, KE.kind, KE.oper, KE.to, KE.n, KE.v, KE.l]; generalize l.length = len at *; (simp <;> omega))
  by_cases h2 : k = 2
  · subst h2; (repeat (first | refine V.step rfl ?_ | refine V.load rfl rfl rfl rfl rfl rfl ?_ | refine V.store rfl rfl rfl rfl rfl rfl rfl ?_ | refine V.condT rfl ?_ | refine V.condF rfl ?_)); refine V.box rfl rfl rfl rfl rfl rfl fun be => ?_; (repeat (first | refine V.step rfl ?_ | refine V.load rfl rfl rfl rfl rfl rfl ?_ | refine V.store rfl rfl rfl rfl rfl rfl rfl ?_ | refine V.condT rfl ?_ | refine V.condF rfl ?_)); refine V.ret1 (L0 := []) rfl rfl rfl rfl rfl ⟨?_, GH.le_refl _, (by repeat (first | exact List.Sublist.refl _ | apply List.Sublist.cons))⟩; (refine bool_eq ?_; simp only [shapeB, KE.kind, KE.oper, KE.to, KE.n, KE.v, KE.l]; generalize l.length = len at *; (simp <;> omega))
  by_cases h3 : k = 3
  · subst h3; (repeat (first | refine V.step rfl ?_ | refine V.load rfl rfl rfl rfl rfl rfl ?_ | refine V.store rfl rfl rfl rfl rfl rfl rfl ?_ | refine V.condT rfl ?_ | refine V.condF rfl ?_)); refine V.box rfl rfl rfl rfl rfl rfl fun be => ?_; (repeat (first | refine V.step rfl ?_ | refine V.load rfl rfl rfl rfl rfl rfl ?_ | refine V.store rfl rfl rfl rfl rfl rfl rfl ?_ | refine V.condT rfl ?_ | refine V.condF rfl ?_)); refine V.ret1 (L0 := []) rfl rfl rfl rfl rfl ⟨?_, GH.le_refl _, (by repeat (first | exact List.Sublist.refl _ | apply List.Sublist.cons))⟩; (refine bool_eq ?_; simp only [shapeB, KE.kind, KE.oper, KE.to, KE.n, KE.v, KE.l]; generalize l.length = len at *; (simp <;> omega))
  by_cases h4 : k = 4
  · subst h4; (repeat (first | refine V.step rfl ?_ | refine V.load rfl rfl rfl rfl rfl rfl ?_ | refine V.store rfl rfl rfl rfl rfl rfl rfl ?_ | refine V.condT rfl ?_ | refine V.condF rfl ?_)); refine V.box rfl rfl rfl rfl rfl rfl fun be => ?_; (repeat (first | refine V.step rfl ?_ | refine V.load rfl rfl rfl rfl rfl rfl ?_ | refine V.store rfl rfl rfl rfl rfl rfl rfl ?_ | refine V.condT rfl ?_ | refine V.condF rfl ?_)); refine V.ret1 (L0 := []) rfl rfl rfl rfl rfl ⟨?_, GH.le_refl _, (by repeat (first | exact List.Sublist.refl _ | apply List.Sublist.cons))⟩; (refine bool_eq ?_; simp only [shapeB, KE.kind, KE.oper, KE.to, KE.n, KE.v, KE.l]; generalize l.length = len at *; (simp <;> omega))
  by_cases h5 : k = 5
  · subst h5; (repeat (first | refine V.step rfl ?_ | refine V.load rfl rfl rfl rfl rfl rfl ?_ | refine V.store rfl rfl rfl rfl rfl rfl rfl ?_ | refine V.condT rfl ?_ | refine V.condF rfl ?_)); refine V.box rfl rfl rfl rfl rfl rfl fun be => ?_; (repeat (first | refine V.step rfl ?_ | refine V.load rfl rfl rfl rfl rfl rfl ?_ | refine V.store rfl rfl rfl rfl rfl rfl rfl ?_ | refine V.condT rfl ?_ | refine V.condF rfl ?_)); refine V.ret1 (L0 := []) rfl rfl rfl rfl rfl ⟨?_, GH.le_refl _, (by repeat (first | exact List.Sublist.refl _ | apply List.Sublist.cons))⟩; (refine bool_eq ?_; simp only [shapeB, KE.kind, KE.oper, KE.to, KE.n, KE.v, KE.l]; generalize l.length = len at *; (simp <;> omega))
  by_cases h6 : k = 6
  · subst h6; (repeat (first | refine V.step rfl ?_ | refine V.load rfl rfl rfl rfl rfl rfl ?_ | refine V.store rfl rfl rfl rfl rfl rfl rfl ?_ | refine V.condT rfl ?_ | refine V.condF rfl ?_)); refine V.box rfl rfl rfl rfl rfl rfl fun be => ?_; (repeat (first | refine V.step rfl ?_ | refine V.load rfl rfl rfl rfl rfl rfl ?_ | refine V.store rfl rfl rfl rfl rfl rfl rfl ?_ | refine V.condT rfl ?_ | refine V.condF rfl ?_)); refine V.ret1 (L0 := []) rfl rfl rfl rfl rfl ⟨?_, GH.le_refl _, (by repeat (first | exact List.Sublist.refl _ | apply List.Sublist.cons))⟩; (refine bool_eq ?_; simp only [shapeB, KE.kind, KE.oper, KE.to, KE.n, KE.v, KE.l]; generalize l.length = len at *; (simp <;> omega))
  (repeat (first | refine V.step rfl ?_ | refine V.load rfl rfl rfl rfl rfl rfl ?_ | refine V.store rfl rfl rfl rfl rfl rfl rfl ?_ | refine V.condT rfl ?_ | refine V.condF rfl ?_)); refine V.box rfl rfl rfl rfl rfl rfl fun be => ?_; (repeat (first | refine V.step rfl ?_ | refine V.load rfl rfl rfl rfl rfl rfl ?_ | refine V.store rfl rfl rfl rfl rfl rfl rfl ?_ | refine V.condT rfl ?_ | refine V.condF rfl ?_)); refine V.cond rfl (fun hc => (by rw [wr64 _ (by omega)] at hc; simp at hc; omega)) (fun _ => ?_); (repeat (first | refine V.step rfl ?_ | refine V.load rfl rfl rfl rfl rfl rfl ?_ | refine V.store rfl rfl rfl rfl rfl rfl rfl ?_ | refine V.condT rfl ?_ | refine V.condF rfl ?_)); refine V.cond rfl (fun hc => (by rw [wr64 _ (by omega)] at hc; simp at hc; omega)) (fun _ => ?_); (repeat (first | refine V.step rfl ?_ | refine V.load rfl rfl rfl rfl rfl rfl ?_ | refine V.store rfl rfl rfl rfl rfl rfl rfl ?_ | refine V.condT rfl ?_ | refine V.condF rfl ?_)); refine V.cond rfl (fun hc => (by rw [wr64 _ (by omega)] at hc; simp at hc; omega)) (fun _ => ?_); (repeat (first | refine V.step rfl ?_ | refine V.load rfl rfl rfl rfl rfl rfl ?_ | refine V.store rfl rfl rfl rfl rfl rfl rfl ?_ | refine V.condT rfl ?_ | refine V.condF rfl ?_)); refine V.cond rfl (fun hc => (by rw [wr64 _ (by omega)] at hc; simp at hc; omega)) (fun _ => ?_); (repeat (first | refine V.step rfl ?_ | refine V.load rfl rfl rfl rfl rfl rfl ?_ | refine V.store rfl rfl rfl rfl rfl rfl rfl ?_ | refine V.condT rfl ?_ | refine V.condF rfl ?_)); refine V.cond rfl (fun hc => (by rw [wr64 _ (by omega)] at hc; simp at hc; omega)) (fun _ => ?_); (repeat (first | refine V.step rfl ?_ | refine V.load rfl rfl rfl rfl rfl rfl ?_ | refine V.store rfl rfl rfl rfl rfl rfl rfl ?_ | refine V.condT rfl ?_ | refine V.condF rfl ?_)); refine V.cond rfl (fun hc => (by rw [wr64 _ (by omega)] at hc; simp at hc; omega)) (fun _ => ?_); (repeat (first | refine V.step rfl ?_ | refine V.load rfl rfl rfl rfl rfl rfl ?_ | refine V.store rfl rfl rfl rfl rfl rfl rfl ?_ | refine V.condT rfl ?_ | refine V.condF rfl ?_))
  refine V.ret1 (L0 := []) rfl rfl rfl rfl rfl ⟨?_, GH.le_refl _, (by repeat (first | exact List.Sublist.refl _ | apply List.Sublist.cons))⟩
  rw [shape_k ⟨k, o, t, n, v, l⟩ h1 h2 h3 h4 h5 h6]
def sureB (e : KE) : Bool := if e.kind = 1 then true else if e.kind = 2 then true else if e.kind = 4 then !(e.oper == 23) else if e.kind = 5 then decide (e.oper ≥ 6) else if e.kind = 6 then e.to == 1 else false
theorem sure_does (w0 : World) (h : GH) (L : List Ent) (e : KE) (cs : List Value) (hr : RK h e cs) : Does Tryz.prog w0 71 [.agg ⟨cs⟩] h L (Is (.bool (sureB e)) h L) := by
  obtain ⟨k, o, t, n, v, l⟩ := e
  simp only [RK] at hr
  obtain ⟨hz, a, cap, rfl, hcap, hl⟩ := hr
  unfold u8 i32 i64 at hz
  refine Does.is (Does.of_V (cfg w0 71 Tryz.f71 24 (RIs (.bool (sureB ⟨k, o, t, n, v, l⟩)) h L) Tryz.func71) rfl rfl rfl rfl rfl rfl ?_)
  by_cases h1 : k = 1
  · subst h1; (repeat (first | refine V.step rfl ?_ | refine V.load rfl rfl rfl rfl rfl rfl ?_ | refine V.store rfl rfl rfl rfl rfl rfl rfl ?_ | refine V.condT rfl ?_ | refine V.condF rfl ?_)); refine V.box rfl rfl rfl rfl rfl rfl fun be => ?_; (repeat (first | refine V.step rfl ?_ | refine V.load rfl rfl rfl rfl rfl rfl ?_ | refine V.store rfl rfl rfl rfl rfl rfl rfl ?_ | refine V.condT rfl ?_ | refine V.condF rfl ?_)); refine V.ret1 (L0 := []) rfl rfl rfl rfl rfl ⟨?_, GH.le_refl _, (by repeat (first | exact List.Sublist.refl _ | apply List.Sublist.cons))⟩; (refine bool_eq ?_; simp [sureB, KE.kind, KE.oper, KE.to, KE.n, KE.v, KE.l])
  by_cases h2 : k = 2
  · subst h2; (repeat (first | refine V.step rfl ?_ | refine V.load rfl rfl rfl rfl rfl rfl ?_ | refine V.store rfl rfl rfl rfl rfl rfl rfl ?_ | refine V.condT rfl ?_ | refine V.condF rfl ?_)); refine V.box rfl rfl rfl rfl rfl rfl fun be => ?_; (repeat (first | refine V.step rfl ?_ | refine V.load rfl rfl rfl rfl rfl rfl ?_ | refine V.store rfl rfl rfl rfl rfl rfl rfl ?_ | refine V.condT rfl ?_ | refine V.condF rfl ?_)); refine V.ret1 (L0 := []) rfl rfl rfl rfl rfl ⟨?_, GH.le_refl _, (by repeat (first | exact List.Sublist.refl _ | apply List.Sublist.cons))⟩; (refine bool_eq ?_; simp [sureB, KE.kind, KE.oper, KE.to, KE.n, KE.v, KE.l])
  by_cases h4 : k = 4
  · subst h4; (repeat (first | refine V.step rfl ?_ | refine V.load rfl rfl rfl rfl rfl rfl ?_ | refine V.store rfl rfl rfl rfl rfl rfl rfl ?_ | refine V.condT rfl ?_ | refine V.condF rfl ?_)); refine V.box rfl rfl rfl rfl rfl rfl fun be => ?_; (repeat (first | refine V.step rfl ?_ | refine V.load rfl rfl rfl rfl rfl rfl ?_ | refine V.store rfl rfl rfl rfl rfl rfl rfl ?_ | refine V.condT rfl ?_ | refine V.condF rfl ?_)); refine V.ret1 (L0 := []) rfl rfl rfl rfl rfl ⟨?_, GH.le_refl _, (by repeat (first | exact List.Sublist.refl _ | apply List.Sublist.cons))⟩; (refine bool_eq ?_; simp [sureB, KE.kind, KE.oper, KE.to, KE.n, KE.v, KE.l])
  by_cases h5 : k = 5
  · subst h5; (repeat (first | refine V.step rfl ?_ | refine V.load rfl rfl rfl rfl rfl rfl ?_ | refine V.store rfl rfl rfl rfl rfl rfl rfl ?_ | refine V.condT rfl ?_ | refine V.condF rfl ?_)); refine V.box rfl rfl rfl rfl rfl rfl fun be => ?_; (repeat (first | refine V.step rfl ?_ | refine V.load rfl rfl rfl rfl rfl rfl ?_ | refine V.store rfl rfl rfl rfl rfl rfl rfl ?_ | refine V.condT rfl ?_ | refine V.condF rfl ?_)); refine V.ret1 (L0 := []) rfl rfl rfl rfl rfl ⟨?_, GH.le_refl _, (by repeat (first | exact List.Sublist.refl _ | apply List.Sublist.cons))⟩; (refine bool_eq ?_; simp [sureB, KE.kind, KE.oper, KE.to, KE.n, KE.v, KE.l])
  by_cases h6 : k = 6
  · subst h6; (repeat (first | refine V.step rfl ?_ | refine V.load rfl rfl rfl rfl rfl rfl ?_ | refine V.store rfl rfl rfl rfl rfl rfl rfl ?_ | refine V.condT rfl ?_ | refine V.condF rfl ?_)); refine V.box rfl rfl rfl rfl rfl rfl fun be => ?_; (repeat (first | refine V.step rfl ?_ | refine V.load rfl rfl rfl rfl rfl rfl ?_ | refine V.store rfl rfl rfl rfl rfl rfl rfl ?_ | refine V.condT rfl ?_ | refine V.condF rfl ?_)); refine V.ret1 (L0 := []) rfl rfl rfl rfl rfl ⟨?_, GH.le_refl _, (by repeat (first | exact List.Sublist.refl _ | apply List.Sublist.cons))⟩; (refine bool_eq ?_; simp [sureB, KE.kind, KE.oper, KE.to, KE.n, KE.v, KE.l])
  (repeat (first | refine V.step rfl ?_ | refine V.load rfl rfl rfl rfl rfl rfl ?_ | refine V.store rfl rfl rfl rfl rfl rfl rfl ?_ | refine V.condT rfl ?_ | refine V.condF rfl ?_)); refine V.box rfl rfl rfl rfl rfl rfl fun be => ?_; (repeat (first | refine V.step rfl ?_ | refine V.load rfl rfl rfl rfl rfl rfl ?_ | refine V.store rfl rfl rfl rfl rfl rfl rfl ?_ | refine V.condT rfl ?_ | refine V.condF rfl ?_)); refine V.cond rfl (fun hc => (by rw [wr64 _ (by omega)] at hc; simp at hc; omega)) (fun _ => ?_); (repeat (first | refine V.step rfl ?_ | refine V.load rfl rfl rfl rfl rfl rfl ?_ | refine V.store rfl rfl rfl rfl rfl rfl rfl ?_ | refine V.condT rfl ?_ | refine V.condF rfl ?_)); refine V.cond rfl (fun hc => (by rw [wr64 _ (by omega)] at hc; simp at hc; omega)) (fun _ => ?_); (repeat (first | refine V.step rfl ?_ | refine V.load rfl rfl rfl rfl rfl rfl ?_ | refine V.store rfl rfl rfl rfl rfl rfl rfl ?_ | refine V.condT rfl ?_ | refine V.condF rfl ?_)); refine V.cond rfl (fun hc => (by rw [wr64 _ (by omega)] at hc; simp at hc; omega)) (fun _ => ?_); (repeat (first | refine V.step rfl ?_ | refine V.load rfl rfl rfl rfl rfl rfl ?_ | refine V.store rfl rfl rfl rfl rfl rfl rfl ?_ | refine V.condT rfl ?_ | refine V.condF rfl ?_)); refine V.cond rfl (fun hc => (by rw [wr64 _ (by omega)] at hc; simp at hc; omega)) (fun _ => ?_); (repeat (first | refine V.step rfl ?_ | refine V.load rfl rfl rfl rfl rfl rfl ?_ | refine V.store rfl rfl rfl rfl rfl rfl rfl ?_ | refine V.condT rfl ?_ | refine V.condF rfl ?_)); refine V.cond rfl (fun hc => (by rw [wr64 _ (by omega)] at hc; simp at hc; omega)) (fun _ => ?_); (repeat (first | refine V.step rfl ?_ | refine V.load rfl rfl rfl rfl rfl rfl ?_ | refine V.store rfl rfl rfl rfl rfl rfl rfl ?_ | refine V.condT rfl ?_ | refine V.condF rfl ?_))
  refine V.ret1 (L0 := []) rfl rfl rfl rfl rfl ⟨?_, GH.le_refl _, (by repeat (first | exact List.Sublist.refl _ | apply List.Sublist.cons))⟩
  simp [sureB, KE.kind, KE.oper, KE.to, KE.n, KE.v, KE.l, *]
theorem top_does (w0 : World) (h : GH) (L : List Ent) (x y : Int) (b : Nat) (hr : atH h b 0 [.int .i64 y]) (c : Nat) : Does Tryz.prog w0 92 [.int .i64 x, .slice (some ⟨b, 0, none⟩) 1 c] h L (Is (.int .i64 (max x y)) h L) := by
  refine Does.is (Does.of_V (cfg w0 92 Tryz.f92 18 (RIs (.int .i64 (max x y)) h L) Tryz.func92) rfl rfl rfl rfl rfl rfl ?_)
  (repeat (first | refine V.step rfl ?_ | refine V.load rfl rfl rfl rfl rfl rfl ?_ | refine V.store rfl rfl rfl rfl rfl rfl rfl ?_ | refine V.condT rfl ?_ | refine V.condF rfl ?_))
  refine V.loop1 ?_
  (repeat (first | refine V.step rfl ?_ | refine V.load rfl rfl rfl rfl rfl rfl ?_ | refine V.store rfl rfl rfl rfl rfl rfl rfl ?_ | refine V.condT rfl ?_ | refine V.condF rfl ?_))
  refine V.index rfl rfl rfl rfl rfl rfl (by omega) (by decide) ?_
  refine V.loadH rfl rfl rfl rfl rfl (hr 0 _ rfl) rfl ?_
  (repeat (first | refine V.step rfl ?_ | refine V.load rfl rfl rfl rfl rfl rfl ?_ | refine V.store rfl rfl rfl rfl rfl rfl rfl ?_ | refine V.condT rfl ?_ | refine V.condF rfl ?_))
  refine V.again ?_
  (repeat (first | refine V.step rfl ?_ | refine V.load rfl rfl rfl rfl rfl rfl ?_ | refine V.store rfl rfl rfl rfl rfl rfl rfl ?_ | refine V.condT rfl ?_ | refine V.condF rfl ?_))
  refine V.ret1 (L0 := []) rfl rfl rfl rfl rfl ⟨?_, GH.le_refl _, (by repeat (first | exact List.Sublist.refl _ | apply List.Sublist.cons))⟩
  refine int64_eq ?_
  (try simp only []); split <;> omega
end Go.Proofs.YtgmeahcclogfmaaGreatDoor.S22
