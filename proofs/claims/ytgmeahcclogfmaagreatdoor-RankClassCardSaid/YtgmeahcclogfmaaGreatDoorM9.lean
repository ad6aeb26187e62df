/-
  Texts R23k R23o, in one. Conditions: as each theorem says.
-/
import Derived.Test.YtgmeahcclogfmaaGreatDoorM8
import Derived.Test.YtgmeahcclogfmaaGreatDoorCards
import Derived.Test.YtgmeahcclogfmaaGreatDoorTie
import Derived.Test.YtgmeahcclogfmaaGreatDoorM3
import Derived.Test.YtgmeahcclogfmaaGreatDoorM5
import Derived.Test.YtgmeahcclogfmaaGreatDoorLd
/-!
  Chapter 23: equal networks; the size of a process; the law on classes.
-/
namespace Go.Proofs.YtgmeahcclogfmaaGreatDoor
open Go Go.Tp
set_option linter.unusedVariables false
set_option linter.unusedSimpArgs false
set_option maxRecDepth 100000
set_option maxHeartbeats 4000000
theorem nets_self (n : Int) (c : Procs) (hS : ShortN c) : Pure Tryz.prog gs0 8 [netA n c, netA n c] (AB true) := by
  refine Pure.of (S := tt) (fn := Tryz.f8) (n := 69) tt_ok Tryz.func8 rfl rfl rfl rfl fun w0 h0 F hgs => ?_
  (repeat first|refine A.s rfl ?_|refine A.r rfl rfl ?_|refine A.b rfl fun bx=>?_|refine A.step rfl ?_|refine A.v rfl rfl ?_)
  refine A.valE 12 rfl (x' := AB false) (ab_eq (by show (!(n == n)) = false; simp)) ?_
  skip
  refine A.valE 20 rfl (x' := AB false) (ab_eq (by simp)) ?_
  (repeat refine A.s rfl ?_)
  refine A.freeze 2 (sz := 2) rfl rfl rfl ?_
  refine A.freeze 3 (sz := 2) rfl rfl rfl ?_
  refine A.keep [2, 3, 5] rfl ?_
  refine A.loopP (ι := Nat) (fun i => (⟨[(2, .pe 2 (netA n c)), (3, .pe 2 (netA n c)), (5, AI (i : Nat))], []⟩, [])) (fun i => i ≤ c.length) (fun i => c.length - i) 0 (Nat.zero_le _) rfl fun i hi ih => ?_
  (repeat refine A.s rfl ?_)
  refine A.cond rfl (fun hc => ?_) (fun hc => ?_)
  · have hc' : i < c.length := by simpa using hc
    refine Exists.elim (at_exN (l := c) (i := i) hc') fun p hp => ?_
    have hpm := List.mem_of_getElem? hp
    have hpl := hS.steps p hpm
    (repeat refine A.s rfl ?_)
    refine A.draw 12 [0, 1, 2, 3, 4, 5, 6, 7, 8, 9, 10, 11] noPubs [] (by kernel_rfl) (by kernel_rfl) ?_
    (repeat refine WA.s rfl ?_)
    refine WA.x rfl (by show (0 : Int) ≤ (i : Nat); omega) (map_at hp) rfl rfl ?_
    (repeat refine WA.s rfl ?_)
    refine WA.x rfl (by show (0 : Int) ≤ (i : Nat); omega) (map_at hp) rfl rfl ?_
    (repeat refine WA.s rfl ?_)
    refine WA.nil (l := []) rfl ?_
    (repeat refine A.s rfl ?_)
    refine A.valE 40 rfl (x' := AB false) (ab_eq (by show (!(((p.map rowI).length : Int) == ((p.map rowI).length : Int))) = false; simp)) ?_
    (repeat refine A.s rfl ?_)
    refine A.keep [2, 3, 5, 6] rfl ?_
    refine A.loopP (ι := Nat) (fun j => (⟨[(2, .pe 2 (netA n c)), (3, .pe 2 (netA n c)), (5, AI (i : Nat)), (6, AI (j : Nat))], []⟩, [])) (fun j => j ≤ p.length) (fun j => p.length - j) 0 (Nat.zero_le _) rfl fun j hj jh => ?_
    (repeat refine A.s rfl ?_)
    refine A.x rfl (by show (0 : Int) ≤ (i : Nat); omega) (map_at hp) rfl rfl ?_
    (repeat refine A.s rfl ?_)
    refine A.cond rfl (fun hc => ?_) (fun hc => ?_)
    · have hcj : j < p.length := by simpa using hc
      refine Exists.elim (at_exN (l := p) (i := j) hcj) fun s hs => ?_
      have hself := same_self s (hS.uses p hpm s (List.mem_of_getElem? hs))
      (repeat refine A.s rfl ?_)
      refine A.draw 16 [0, 1, 2, 3, 4, 5, 6, 7, 8, 9, 10, 11, 12, 13, 14, 15] noPubs [] (by kernel_rfl) (by kernel_rfl) ?_
      (repeat refine WA.s rfl ?_)
      refine WA.x rfl (by show (0 : Int) ≤ (i : Nat); omega) (map_at hp) rfl rfl ?_
      (repeat refine WA.s rfl ?_)
      refine WA.x rfl (by show (0 : Int) ≤ (j : Nat); omega) (map_at hs) rfl rfl ?_
      (repeat refine WA.s rfl ?_)
      refine WA.x rfl (by show (0 : Int) ≤ (i : Nat); omega) (map_at hp) rfl rfl ?_
      (repeat refine WA.s rfl ?_)
      refine WA.x rfl (by show (0 : Int) ≤ (j : Nat); omega) (map_at hs) rfl rfl ?_
      (repeat refine WA.s rfl ?_)
      refine WA.nil (l := []) rfl ?_
      skip
      refine A.c rfl hself .refl ?_
      (repeat refine A.s rfl ?_)
      refine A.valE 6 rfl (x' := AI ((j + 1 : Nat) : Int)) (inc_eq j (by omega)) ?_
      refine A.sub (by repeat (first | exact trivial | refine ⟨⟨_, rfl, .refl⟩, ?_⟩)) (jh (j + 1) (by omega) (by omega))
    have hcj : ¬ j < p.length := by simpa using hc
    (repeat refine A.s rfl ?_)
    refine A.valE 5 rfl (x' := AI ((i + 1 : Nat) : Int)) (inc_eq i (by have := hS.procs; omega)) ?_
    refine A.sub (by repeat (first | exact trivial | refine ⟨⟨_, rfl, .refl⟩, ?_⟩)) (ih (i + 1) (by omega) (by omega))
  (repeat refine A.s rfl ?_); refine A.ret1 (Λ' := []) rfl rfl rfl (List.nil_sublist _) ⟨?_, rfl⟩; exact .refl
/-! ### sizes -/
mutual
/-- the bodies of guards are not longer than memory bears -/
def bodR : PR → Prop
  | ⟨_, _, _, _, _, _, gs, l⟩ => bodGl gs ∧ bodRl l
def bodRl : List PR → Prop
  | [] => True
  | p :: r => bodR p ∧ bodRl r
def bodG : GD → Prop
  | ⟨_, _, _, _, _, _, b⟩ => b.length ≤ 281474976710656 ∧ bodRl b
def bodGl : List GD → Prop
  | [] => True
  | g :: r => bodG g ∧ bodGl r
end
theorem bodRl_mem : ∀ {l : List PR}, bodRl l → ∀ x, x ∈ l → bodR x
  | [], _, x, h => by cases h
  | y :: r, hw, x, h => by
    rw [bodRl] at hw
    rcases List.mem_cons.1 h with rfl | h
    · exact hw.1
    · exact bodRl_mem hw.2 x h
theorem bodGl_mem : ∀ {l : List GD}, bodGl l → ∀ x, x ∈ l → bodG x
  | [], _, x, h => by cases h
  | y :: r, hw, x, h => by
    rw [bodGl] at hw
    rcases List.mem_cons.1 h with rfl | h
    · exact hw.1
    · exact bodGl_mem hw.2 x h
theorem bodR_l {p : PR} (h : bodR p) : ∀ x, x ∈ p.l → bodR x := by
  obtain ⟨k, c, v, i, to, e, gs, l⟩ := p
  rw [bodR] at h
  exact bodRl_mem h.2
theorem bodR_g {p : PR} (h : bodR p) : ∀ g, g ∈ p.gs → g.body.length ≤ 281474976710656 ∧ ∀ x, x ∈ g.body → bodR x := by
  obtain ⟨k, c, v, i, to, e, gs, l⟩ := p
  rw [bodR] at h
  intro g hg
  have := bodGl_mem h.1 g hg
  obtain ⟨k, e, c, i, to, t, b⟩ := g
  rw [bodG] at this
  exact ⟨this.1, bodRl_mem this.2⟩
theorem lt_l {p x : PR} (h : x ∈ p.l) : SizeOf.sizeOf x < SizeOf.sizeOf p := by
  obtain ⟨k, c, v, i, to, e, gs, l⟩ := p
  have := List.sizeOf_lt_of_mem h
  simp only [PR.mk.sizeOf_spec, PR.l] at this ⊢
  omega
theorem lt_g {p x : PR} {g : GD} (hg : g ∈ p.gs) (h : x ∈ g.body) : SizeOf.sizeOf x < SizeOf.sizeOf p := by
  obtain ⟨k, c, v, i, to, e, gs, l⟩ := p
  have h1 := List.sizeOf_lt_of_mem hg
  obtain ⟨k, e, c, i, to, t, b⟩ := g
  have h2 := List.sizeOf_lt_of_mem h
  simp only [PR.mk.sizeOf_spec, GD.mk.sizeOf_spec, PR.gs, GD.body] at h1 h2 ⊢
  omega
theorem skol {P : PR → Int → Prop} {S : PR → Prop} (h : ∀ x, S x → ∃ n, P x n) : ∃ f : PR → Int, ∀ x, S x → P x (f x) := by
  classical
  exact ⟨fun x => if hx : S x then (h x hx).choose else 0, fun x hx => by simp only [dif_pos hx]; exact (h x hx).choose_spec⟩
def addF (f : PR → Int) (n : Int) (x : PR) : Int := w64 (n + f x)
theorem size_f (p : PR) (hw : wfR p) (hb : bodR p) (f : PR → Int) (hl : ∀ x, x ∈ p.l → Pure Tryz.prog gs0 4 [cellsR x] (AI (f x))) (hg : ∀ g, g ∈ p.gs → ∀ x, x ∈ g.body → Pure Tryz.prog gs0 4 [cellsR x] (AI (f x))) :
    ∃ n, Pure Tryz.prog gs0 4 [cellsR p] (AI n) := by
  have hwa := wfR_all hw
  have n1 : ((encRl p.l).length : Int) = p.l.length := by rw [encRl_len]
  have n2 : ((encGl p.gs).length : Int) = p.gs.length := by rw [encGl_len]
  have hbg := bodR_g hb
  refine ⟨p.gs.foldl (fun n g => g.body.foldl (addF f) n) (p.l.foldl (addF f) 1), ?_⟩
  refine Pure.of (S := tt) (fn := Tryz.f4) (n := 53) tt_ok Tryz.func4 rfl rfl rfl rfl fun w0 h0 F hgs => ?_
  (repeat first|refine A.s rfl ?_|refine A.b rfl fun bx=>?_)
  refine A.freeze 1 (sz := 8) rfl rfl rfl ?_
  refine A.keep [1, 3, 4] rfl ?_
  refine A.loopP (ι := Nat) (fun i => (⟨[(1, .pe 8 (cellsR p)), (3, AI ((p.l.take i).foldl (addF f) 1)), (4, AI (i : Nat))], []⟩, [])) (fun i => i ≤ p.l.length) (fun i => p.l.length - i) 0 (Nat.zero_le _) rfl fun i hi ih => ?_
  (repeat refine A.s rfl ?_)
  refine A.cond rfl (fun hc => ?_) (fun hc => ?_)
  · have hc' : i < p.l.length := by have := hc; simp only [n1, decide_eq_true_eq] at this; omega
    refine Exists.elim (at_exN (l := p.l) (i := i) hc') fun x hx => ?_
    have hsz := hl x (List.mem_of_getElem? hx)
    have htk : p.l.take (i + 1) = p.l.take i ++ [x] := by rw [List.take_add_one, hx]; rfl
    (repeat refine A.s rfl ?_)
    refine A.x rfl (by show (0 : Int) ≤ (i : Nat); omega) (encRl_at hx) (encR_eq x) rfl ?_
    (repeat refine A.s rfl ?_)
    refine A.c rfl hsz .refl ?_
    (repeat refine A.s rfl ?_)
    refine A.valE 3 rfl (x' := AI ((p.l.take (i + 1)).foldl (addF f) 1)) (by rw [htk, List.foldl_append]; rfl) ?_
    refine A.valE 4 rfl (x' := AI ((i + 1 : Nat) : Int)) (inc_eq i (by have := hwa.ll; omega)) ?_
    refine A.sub (by repeat (first | exact trivial | refine ⟨⟨_, rfl, .refl⟩, ?_⟩)) (ih (i + 1) (by omega) (by omega))
  have hc' : ¬ i < p.l.length := by have := hc; simp only [n1, decide_eq_false_iff_not] at this; omega
  have hil : i = p.l.length := by omega
  refine A.valE 3 rfl (x' := AI (p.l.foldl (addF f) 1)) (by rw [hil, List.take_length]) ?_
  (repeat refine A.s rfl ?_)
  refine A.keep [1, 3, 5] rfl ?_
  refine A.loopP (ι := Nat) (fun j => (⟨[(1, .pe 8 (cellsR p)), (3, AI ((p.gs.take j).foldl (fun n g => g.body.foldl (addF f) n) (p.l.foldl (addF f) 1))), (5, AI (j : Nat))], []⟩, [])) (fun j => j ≤ p.gs.length) (fun j => p.gs.length - j) 0 (Nat.zero_le _) rfl fun j hj jh => ?_
  (repeat refine A.s rfl ?_)
  refine A.cond rfl (fun hc => ?_) (fun hc => ?_)
  · have hc' : j < p.gs.length := by have := hc; simp only [n2, decide_eq_true_eq] at this; omega
    refine Exists.elim (at_exN (l := p.gs) (i := j) hc') fun g hgj => ?_
    have hgm := List.mem_of_getElem? hgj
    have htk : p.gs.take (j + 1) = p.gs.take j ++ [g] := by rw [List.take_add_one, hgj]; rfl
    have n3 : ((encRl g.body).length : Int) = g.body.length := by rw [encRl_len]
    have hgl := hwa.gl
    have hbl := (hbg g hgm).1
    refine Exists.elim (show ∃ n0, n0 = (p.gs.take j).foldl (fun n g => g.body.foldl (addF f) n) (p.l.foldl (addF f) 1) from ⟨_, rfl⟩) fun n0 hn0 => ?_
    refine A.valE 3 rfl (x' := AI n0) (by rw [hn0]) ?_
    (repeat refine A.s rfl ?_)
    refine A.keep [1, 3, 5, 6] rfl ?_
    refine A.loopP (ι := Nat) (fun t => (⟨[(1, .pe 8 (cellsR p)), (3, AI ((g.body.take t).foldl (addF f) n0)), (5, AI (j : Nat)), (6, AI (t : Nat))], []⟩, [])) (fun t => t ≤ g.body.length) (fun t => g.body.length - t) 0 (Nat.zero_le _) rfl fun t ht th => ?_
    (repeat refine A.s rfl ?_)
    refine A.x rfl (by show (0 : Int) ≤ (j : Nat); omega) (encGl_at hgj) (encG_eq g) rfl ?_
    (repeat refine A.s rfl ?_)
    refine A.cond rfl (fun hc => ?_) (fun hc => ?_)
    · have hct : t < g.body.length := by have := hc; simp only [n3, decide_eq_true_eq] at this; omega
      refine Exists.elim (at_exN (l := g.body) (i := t) hct) fun x hx => ?_
      have hsz := hg g hgm x (List.mem_of_getElem? hx)
      have htk2 : g.body.take (t + 1) = g.body.take t ++ [x] := by rw [List.take_add_one, hx]; rfl
      (repeat refine A.s rfl ?_)
      refine A.x rfl (by show (0 : Int) ≤ (j : Nat); omega) (encGl_at hgj) (encG_eq g) rfl ?_
      (repeat refine A.s rfl ?_)
      refine A.x rfl (by show (0 : Int) ≤ (t : Nat); omega) (encRl_at hx) (encR_eq x) rfl ?_
      (repeat refine A.s rfl ?_)
      refine A.c rfl hsz .refl ?_
      (repeat refine A.s rfl ?_)
      refine A.valE 3 rfl (x' := AI ((g.body.take (t + 1)).foldl (addF f) n0)) (by rw [htk2, List.foldl_append]; rfl) ?_
      refine A.valE 6 rfl (x' := AI ((t + 1 : Nat) : Int)) (inc_eq t (by omega)) ?_
      refine A.sub (by repeat (first | exact trivial | refine ⟨⟨_, rfl, .refl⟩, ?_⟩)) (th (t + 1) (by omega) (by omega))
    have hct : ¬ t < g.body.length := by have := hc; simp only [n3, decide_eq_false_iff_not] at this; omega
    have htl : t = g.body.length := by omega
    refine A.valE 3 rfl (x' := AI ((p.gs.take (j + 1)).foldl (fun n g => g.body.foldl (addF f) n) (p.l.foldl (addF f) 1))) (by rw [htl, List.take_length, htk, List.foldl_append, ← hn0]; rfl) ?_
    (repeat refine A.s rfl ?_)
    refine A.valE 5 rfl (x' := AI ((j + 1 : Nat) : Int)) (inc_eq j (by omega)) ?_
    refine A.sub (by repeat (first | exact trivial | refine ⟨⟨_, rfl, .refl⟩, ?_⟩)) (jh (j + 1) (by omega) (by omega))
  have hc' : ¬ j < p.gs.length := by have := hc; simp only [n2, decide_eq_false_iff_not] at this; omega
  have hjl : j = p.gs.length := by omega
  rw [hjl, List.take_length]
  (repeat refine A.s rfl ?_); refine A.ret1 (Λ' := []) rfl rfl rfl (List.nil_sublist _) ⟨?_, rfl⟩; exact .refl
theorem size_ex : ∀ (m : Nat) (p : PR), SizeOf.sizeOf p ≤ m → wfR p → bodR p → ∃ n, Pure Tryz.prog gs0 4 [cellsR p] (AI n)
  | 0, p, h, _, _ => by
    obtain ⟨k, c, v, i, to, e, gs, l⟩ := p
    simp only [PR.mk.sizeOf_spec] at h; omega
  | m + 1, p, h, hw, hb => by
    have hwa := wfR_all hw
    obtain ⟨f, hf⟩ := skol (S := fun x => SizeOf.sizeOf x ≤ m ∧ wfR x ∧ bodR x) (P := fun x n => Pure Tryz.prog gs0 4 [cellsR x] (AI n)) fun x hx => size_ex m x hx.1 hx.2.1 hx.2.2
    refine size_f p hw hb f (fun x hx => hf x ⟨by have := lt_l hx; omega, hwa.l x hx, bodR_l hb x hx⟩) (fun g hg x hx => hf x ⟨by have := lt_g hg hx; omega, (wfG_all (hwa.g g hg)).body x hx, (bodR_g hb g hg).2 x hx⟩)
/-! ### the law -/
theorem rclass_p (k : KN) (hw : WfN k) : Pure Tryz.prog gsQ 7 [encN k] (classR k.chans.length (netC k (lastR k.root)) (mayK k && (lastR k.root).kind == 10 && classB k (lastR k.root))) := by
  have hmay := (rmay16_p k hw).any (gs := gsQ)
  have hlast := (rlast_p k.root 10 (by decide) (wfR_all hw.root).ll).any (gs := gsQ)
  cases hm : mayK k with
  | false =>
    rw [hm] at hmay
    rw [Bool.false_and, Bool.false_and]
    exact rclass_no k _ false _ rfl hlast hmay
  | true =>
    rw [hm] at hmay
    rw [Bool.true_and]
    cases ht : ((lastR k.root).kind == 10) with
    | false =>
      rw [ht] at hlast
      exact rclass_no k _ true false rfl hlast hmay
    | true =>
      rw [ht] at hlast
      rw [Bool.true_and]
      have hg := good_root hw hm
      have hce := class_eq hg.1.last hg.2
      rw [hce.1]
      exact rclass_yes k _ hg.1.last (by simpa using ht) hg.2 hlast hmay hce.2 _ rfl
theorem class_law (k : KN) (hw : WfN k) (hb : bodR k.root) : Pure Tryz.prog gsQ 3 [encN k] (AB true) := by
  obtain ⟨n, hsz⟩ := size_ex _ k.root (Nat.le_refl _) hw.root hb
  have hsz := hsz.any (gs := gsQ)
  have hhead := head_p.any (gs := gsQ)
  have hc := class_p k hw
  have hr := rclass_p k hw
  obtain ⟨b, hbe⟩ : ∃ b, b = (mayK k && (lastR k.root).kind == 10 && classB k (lastR k.root)) := ⟨_, rfl⟩
  rw [← hbe] at hc hr
  have hsh : b = true → ShortN (netC k (lastR k.root)) := fun h => by
    rw [hbe, Bool.and_eq_true, Bool.and_eq_true] at h
    exact short_net (good_root hw h.1.1).1.last
  clear hbe
  have hs0 : Pure Tryz.prog gsQ 8 [netA 0 [], netA 0 []] (AB true) := (nets_self 0 [] ⟨by simp, fun p hp => (by cases hp), fun p hp => (by cases hp)⟩).any
  refine Pure.of (S := tt) (fn := Tryz.f3) (n := 51) tt_ok Tryz.func3 rfl rfl rfl rfl fun w0 h0 F hgs => ?_
  (repeat first|refine A.s rfl ?_|refine A.r rfl rfl ?_|refine A.b rfl fun bx=>?_)
  ((fail_if_success (refine A.lit? rfl ?_)); refine A.gS rfl (fun hc => ?_) (fun hc => ?_))
  · ((repeat refine A.s rfl ?_); refine A.c rfl hhead .refl ?_; (repeat refine A.s rfl ?_); refine A.ret1 (Λ' := []) rfl rfl rfl (List.nil_sublist _) ⟨?_, rfl⟩; exact .refl)
  (repeat first|refine A.s rfl ?_|refine A.r rfl rfl ?_)
  ((fail_if_success (refine A.lit? rfl ?_)); refine A.gS rfl (fun hc => ?_) (fun hc => ?_))
  · ((repeat refine A.s rfl ?_); refine A.c rfl hhead .refl ?_; (repeat refine A.s rfl ?_); refine A.ret1 (Λ' := []) rfl rfl rfl (List.nil_sublist _) ⟨?_, rfl⟩; exact .refl)
  (repeat first|refine A.s rfl ?_|refine A.r rfl rfl ?_)
  ((fail_if_success (refine A.lit? rfl ?_)); refine A.gS rfl (fun hc => ?_) (fun hc => ?_))
  · ((repeat refine A.s rfl ?_); refine A.c rfl hhead .refl ?_; (repeat refine A.s rfl ?_); refine A.ret1 (Λ' := []) rfl rfl rfl (List.nil_sublist _) ⟨?_, rfl⟩; exact .refl)
  (repeat first|refine A.s rfl ?_|refine A.r rfl rfl ?_)
  refine A.c rfl hsz .refl ?_
  (repeat refine A.s rfl ?_)
  refine A.cond rfl (fun hc => ?_) (fun hc => ?_)
  · ((repeat refine A.s rfl ?_); refine A.c rfl hhead .refl ?_; (repeat refine A.s rfl ?_); refine A.ret1 (Λ' := []) rfl rfl rfl (List.nil_sublist _) ⟨?_, rfl⟩; exact .refl)
  cases b with
  | false =>
    (repeat first|refine A.s rfl ?_|refine A.r rfl rfl ?_)
    refine A.c rfl hc .refl ?_
    (repeat first|refine A.s rfl ?_|refine A.r rfl rfl ?_|refine A.w rfl rfl ?_|refine A.b rfl fun bx=>?_)
    refine A.c rfl hr .refl ?_
    (repeat first|refine A.s rfl ?_|refine A.r rfl rfl ?_|refine A.w rfl rfl ?_|refine A.b rfl fun bx=>?_)
    refine A.valE 43 rfl (x' := AB true) (ab_eq rfl) ?_
    skip
    refine A.c rfl hs0 .refl ?_
    (repeat refine A.s rfl ?_)
    refine A.c rfl hhead .refl ?_
    (repeat refine A.s rfl ?_); refine A.ret1 (Λ' := []) rfl rfl rfl (List.nil_sublist _) ⟨?_, rfl⟩; exact .refl
  | true =>
    have hs1 := (nets_self (k.chans.length : Nat) _ (hsh rfl)).any (gs := gsQ)
    (repeat first|refine A.s rfl ?_|refine A.r rfl rfl ?_)
    refine A.c rfl hc .refl ?_
    (repeat first|refine A.s rfl ?_|refine A.r rfl rfl ?_|refine A.w rfl rfl ?_|refine A.b rfl fun bx=>?_)
    refine A.c rfl hr .refl ?_
    (repeat first|refine A.s rfl ?_|refine A.r rfl rfl ?_|refine A.w rfl rfl ?_|refine A.b rfl fun bx=>?_)
    refine A.valE 43 rfl (x' := AB true) (ab_eq rfl) ?_
    skip
    refine A.c rfl hs1 .refl ?_
    (repeat refine A.s rfl ?_)
    refine A.c rfl hhead .refl ?_
    (repeat refine A.s rfl ?_); refine A.ret1 (Λ' := []) rfl rfl rfl (List.nil_sublist _) ⟨?_, rfl⟩; exact .refl
end Go.Proofs.YtgmeahcclogfmaaGreatDoor
/-!
  Chapter 23: what a kernel reads as; the laid table.
-/
namespace Go.Proofs.YtgmeahcclogfmaaGreatDoor
open Go Go.Tp Go.ChangeShapes Go.WideShapes Go.ChangeAt Go.RowKit
set_option linter.unusedVariables false
set_option linter.unusedSimpArgs false
set_option maxRecDepth 100000
theorem own : ownKnob Tryz.prog.godebug = none := by kernel_rfl
theorem laidOut : laidOutB Tryz.prog = true := by kernel_rfl
theorem gQ : Tryz.prog.globalNamed "transputer/depth.quiet" = some 0 := by kernel_rfl
theorem gQt : (Tryz.prog.globals[0]?).map (·.type) = some 139 := by kernel_rfl
theorem laid_eq : (Rows.laid_transputer_depth_quiet : DataW Unit) = .agg (((List.range 27).map fun (i : Nat) => S22.quietB i).map fun z => .lit (.bool z)) := rfl
theorem quiet_of {W : World} (h : laidMetH Tryz.prog [("transputer/depth.quiet", Rows.laid_transputer_depth_quiet)] W) : atH (hOf W) 0 0 S22.quietL := by
  have h : laidMet Tryz.prog [("transputer/depth.quiet", Rows.laid_transputer_depth_quiet)] W := h
  obtain ⟨cs, fuel, p, _, hd, hc⟩ := laid_head gQ gQt h
  rw [laid_eq] at hd
  have hcs := cells_of_bools (by kernel_rfl : Tryz.prog.underlying 139 = some (.array 27 4)) (by kernel_rfl) (by kernel_rfl) (by kernel_rfl) hd
  have hq : cs.toList = S22.quietL := by rw [hcs]; rfl
  refine hOf_at (fun i _ => ?_) (allOne_mem (by rfl))
  rw [Nat.zero_add, hc i, ← Array.getElem?_toList, hq]
theorem gs_of {W : World} (h : laidMetH Tryz.prog [("transputer/depth.quiet", Rows.laid_transputer_depth_quiet)] W) : GsOk (hOf W) gsQ := fun g x hx => by
  have hq := quiet_of h
  simp only [gsQ, lookA] at hx
  split at hx
  · rename_i hb
    have hg := Nat.eq_of_beq_eq_true hb
    subst hg
    injection hx with hx
    subst hx
    rw [Rp_pe]
    exact ⟨0, 0, .agg ⟨S22.quietL⟩, rfl, Rp_ag.2 ⟨S22.quietL, rfl, RpC_v (by rfl)⟩, rfl, hq⟩
  · cases hx
noncomputable def laidWorld (os : Os) : World :=
  { World.holding Tryz.prog os ⟨#[], #[], []⟩ with heap := (World.holding Tryz.prog os ⟨#[], #[], []⟩).heap.modify 0 fun
      | .cells _ t frozen => .cells ⟨S22.quietL⟩ t frozen
      | o => o }
section
variable {H : Type} {enc : TypeId × Value → H} {W : World} {base : Nat} {sp : Nat → Bool} {hd : Bool}
abbrev cellsKl (e : KE) : List AV := [AU8 e.kind, AU8 e.oper, AU8 e.to, AI32 e.n, AI e.v, .sl 6 (encKl e.l) none]
abbrev cellsRl (p : PR) : List AV := [AU8 p.kind, AI p.c, AI p.v, AU8 p.item, plsA p.to, kesA p.e, gsA p.gs, rsA p.l]
abbrev cellsGl (g : GD) : List AV := [AU8 g.kind, AU8 g.cond.kind, AU8 g.cond.oper, AU8 g.cond.to, AI32 g.cond.n, AI g.cond.v, kesA g.cond.l, AI g.c, AU8 g.item, AI g.to.v, kesA g.to.ix, AU8 g.time.kind, AU8 g.time.oper, AU8 g.time.to, AI32 g.time.n, AI g.time.v, kesA g.time.l, rsA g.body]
theorem encKl_ag (l : List KE) : encKl l = l.map fun e => .ag (cellsKl e) := by rw [encKl_map]; congr 1; funext e; exact encK_eq e
theorem encRl_ag (l : List PR) : encRl l = l.map fun e => .ag (cellsRl e) := by rw [encRl_map]; congr 1; funext e; exact encR_eq e
theorem encGl_ag (l : List GD) : encGl l = l.map fun e => .ag (cellsGl e) := by rw [encGl_map]; congr 1; funext e; exact encG_eq e
theorem wfKl_of : ∀ {l : List KE}, (∀ a, a ∈ l → wfK a) → wfKl l
  | [], _ => by rw [wfKl]; trivial
  | x :: r, h => by rw [wfKl]; exact ⟨h x (List.mem_cons_self ..), wfKl_of fun a ha => h a (List.mem_cons_of_mem _ ha)⟩
theorem wfRl_of : ∀ {l : List PR}, (∀ a, a ∈ l → wfR a ∧ bodR a) → wfRl l ∧ bodRl l
  | [], _ => by rw [wfRl, bodRl]; exact ⟨trivial, trivial⟩
  | x :: r, h => by
    have h1 := h x (List.mem_cons_self ..)
    have h2 := wfRl_of (l := r) fun a ha => h a (List.mem_cons_of_mem _ ha)
    rw [wfRl, bodRl]; exact ⟨⟨h1.1, h2.1⟩, ⟨h1.2, h2.2⟩⟩
theorem wfGl_of : ∀ {l : List GD}, (∀ a, a ∈ l → wfG a ∧ bodG a) → wfGl l ∧ bodGl l
  | [], _ => by rw [wfGl, bodGl]; exact ⟨trivial, trivial⟩
  | x :: r, h => by
    have h1 := h x (List.mem_cons_self ..)
    have h2 := wfGl_of (l := r) fun a ha => h a (List.mem_cons_of_mem _ ha)
    rw [wfGl, bodGl]; exact ⟨⟨h1.1, h2.1⟩, ⟨h1.2, h2.2⟩⟩
theorem op_ke : ∀ n, Opn enc Tryz.prog W base sp hd n 48 cellsKl wfK
  | 0 => Opn.zero
  | n + 1 => by
    have ih := op_ke n
    have hl := (Opn.sliceA (t := 27) (sz := 6) (bt := 40) (by kernel_rfl) (by kernel_rfl) (by kernel_rfl) (by decide) ih).mono (Nat.le_succ n)
    have hf := OpnF.cons (f := ⟨"Kind", 45, 0, false, "", "", 0⟩) (Opn.u8 (by kernel_rfl) n) rfl 1 (by kernel_rfl) (OpnF.cons (f := ⟨"Oper", 46, 1, false, "", "", 1⟩) (Opn.u8 (by kernel_rfl) n) rfl 1 (by kernel_rfl)
      (OpnF.cons (f := ⟨"To", 25, 2, false, "", "", 2⟩) (Opn.u8 (by kernel_rfl) n) rfl 1 (by kernel_rfl) (OpnF.cons (f := ⟨"N", 21, 3, false, "", "", 4⟩) (Opn.i32 (by kernel_rfl) n) rfl 1 (by kernel_rfl)
      (OpnF.cons (f := ⟨"V", 3, 4, false, "", "", 8⟩) (Opn.i64 (by kernel_rfl) n) rfl 1 (by kernel_rfl) (OpnF.cons (f := ⟨"L", 27, 5, false, "", "", 16⟩) hl rfl 1 (by kernel_rfl) OpnF.nil)))))
    refine (Opn.struct (t := 48) (sz := 6) (fs := #[⟨"Kind", 45, 0, false, "", "", 0⟩, ⟨"Oper", 46, 1, false, "", "", 1⟩, ⟨"To", 25, 2, false, "", "", 2⟩, ⟨"N", 21, 3, false, "", "", 4⟩, ⟨"V", 3, 4, false, "", "", 8⟩, ⟨"L", 27, 5, false, "", "", 16⟩]) (by kernel_rfl) (by kernel_rfl) hf (by kernel_rfl)).map (fun p => ⟨p.1, p.2.1, p.2.2.1, p.2.2.2.1, p.2.2.2.2.1, p.2.2.2.2.2.1⟩) (fun p => ?_) (fun p hp => ?_)
    · show cellsKl _ = [_] ++ ([_] ++ ([_] ++ ([_] ++ ([_] ++ ([AV.sl 6 _ none] ++ [])))))
      rw [← encKl_ag]; rfl
    · obtain ⟨k, o, t, n, s, l, u⟩ := p
      obtain ⟨h1, h2, h3, h4, h5, ⟨h6, h7⟩, _⟩ := hp
      rw [wfK]
      exact ⟨⟨h1, h2, h3, h4, h5⟩, wfKl_of h6⟩
theorem op_kes (n : Nat) : Opn enc Tryz.prog W base sp hd n 27 (fun l : List KE => [kesA l]) wfKl := by
  refine ((Opn.sliceA (t := 27) (sz := 6) (bt := 40) (by kernel_rfl) (by kernel_rfl) (by kernel_rfl) (by decide) (op_ke n)).mono (Nat.le_succ n)).map (fun l => l) (fun l => ?_) (fun l h => wfKl_of h.1)
  show [AV.sl 6 (encKl l) none] = _
  rw [encKl_ag]
theorem op_pl (n : Nat) : Opn enc Tryz.prog W base sp hd n 50 (fun p : PL => [AI p.v, kesA p.ix]) wfPl := by
  have hf := OpnF.cons (f := ⟨"V", 3, 0, false, "", "", 0⟩) (Opn.i64 (enc := enc) (P := Tryz.prog) (W := W) (base := base) (sp := sp) (hd := hd) (by kernel_rfl) n) rfl 1 (by kernel_rfl) (OpnF.cons (f := ⟨"Index", 27, 1, false, "", "", 8⟩) (op_kes n) rfl 1 (by kernel_rfl) OpnF.nil)
  exact ((Opn.struct (t := 50) (sz := 2) (fs := #[⟨"V", 3, 0, false, "", "", 0⟩, ⟨"Index", 27, 1, false, "", "", 8⟩]) (by kernel_rfl) (by kernel_rfl) hf (by kernel_rfl)).mono (Nat.le_succ n)).map (fun p => ⟨p.1, p.2.1⟩) (fun p => rfl) (fun p hp => hp.2.1)
theorem op_pls (n : Nat) : Opn enc Tryz.prog W base sp hd n 26 (fun l : List PL => [plsA l]) (fun l => (∀ t, t ∈ l → wfPl t) ∧ l.length ≤ 281474976710656) :=
  ((Opn.sliceA (t := 26) (sz := 2) (bt := 32) (by kernel_rfl) (by kernel_rfl) (by kernel_rfl) (by decide) (op_pl n)).mono (Nat.le_succ n)).map (fun l => l) (fun l => rfl) (fun l h => ⟨h.1, by have := h.2; unfold reachBytes at this; omega⟩)
abbrev OkR (p : PR) : Prop := wfR p ∧ bodR p
abbrev OkG (g : GD) : Prop := wfG g ∧ bodG g
theorem op_prs {n : Nat} (ih : Opn enc Tryz.prog W base sp hd n 31 cellsRl OkR) : Opn enc Tryz.prog W base sp hd n 29 (fun l : List PR => [rsA l]) (fun l => (∀ t, t ∈ l → OkR t) ∧ l.length ≤ 281474976710656) := by
  refine ((Opn.sliceA (t := 29) (sz := 8) (bt := 128) (by kernel_rfl) (by kernel_rfl) (by kernel_rfl) (by decide) ih).mono (Nat.le_succ n)).map (fun l => l) (fun l => ?_) (fun l h => ⟨h.1, by have := h.2; unfold reachBytes at this; omega⟩)
  show [AV.sl 8 (encRl l) none] = _
  rw [encRl_ag]
theorem op_gd {n : Nat} (ih : Opn enc Tryz.prog W base sp hd n 31 cellsRl OkR) : Opn enc Tryz.prog W base sp hd n 52 cellsGl OkG := by
  have hf := OpnF.cons (f := ⟨"Kind", 44, 0, false, "", "", 0⟩) (Opn.u8 (enc := enc) (P := Tryz.prog) (W := W) (base := base) (sp := sp) (hd := hd) (by kernel_rfl) n) rfl 1 (by kernel_rfl) (OpnF.cons (f := ⟨"Cond", 48, 1, false, "", "", 8⟩) (op_ke n) rfl 6 (by kernel_rfl)
    (OpnF.cons (f := ⟨"C", 3, 7, false, "", "", 48⟩) (Opn.i64 (by kernel_rfl) n) rfl 1 (by kernel_rfl) (OpnF.cons (f := ⟨"Item", 25, 8, false, "", "", 56⟩) (Opn.u8 (by kernel_rfl) n) rfl 1 (by kernel_rfl)
    (OpnF.cons (f := ⟨"To", 50, 9, false, "", "", 64⟩) (op_pl n) rfl 2 (by kernel_rfl) (OpnF.cons (f := ⟨"Time", 48, 11, false, "", "", 96⟩) (op_ke n) rfl 6 (by kernel_rfl)
    (OpnF.cons (f := ⟨"Body", 29, 17, false, "", "", 136⟩) (op_prs ih) rfl 1 (by kernel_rfl) OpnF.nil))))))
  refine ((Opn.struct (t := 52) (sz := 18) (fs := #[⟨"Kind", 44, 0, false, "", "", 0⟩, ⟨"Cond", 48, 1, false, "", "", 8⟩, ⟨"C", 3, 7, false, "", "", 48⟩, ⟨"Item", 25, 8, false, "", "", 56⟩, ⟨"To", 50, 9, false, "", "", 64⟩, ⟨"Time", 48, 11, false, "", "", 96⟩, ⟨"Body", 29, 17, false, "", "", 136⟩]) (by kernel_rfl) (by kernel_rfl) hf (by kernel_rfl)).mono (Nat.le_succ n)).map (fun p => ⟨p.1, p.2.1, p.2.2.1, p.2.2.2.1, p.2.2.2.2.1, p.2.2.2.2.2.1, p.2.2.2.2.2.2.1⟩) (fun p => rfl) (fun p hp => ?_)
  obtain ⟨h1, h2, h3, h4, h5, h6, ⟨h7, h8⟩, _⟩ := hp
  have h9 := wfRl_of h7
  refine ⟨?_, ?_⟩
  · rw [wfG]; exact ⟨⟨h2, h6, h5⟩, h9.1⟩
  · rw [bodG]; exact ⟨h8, h9.2⟩
theorem op_gds {n : Nat} (ih : Opn enc Tryz.prog W base sp hd n 31 cellsRl OkR) : Opn enc Tryz.prog W base sp hd n 28 (fun l : List GD => [gsA l]) (fun l => (∀ t, t ∈ l → OkG t) ∧ l.length ≤ 281474976710656) := by
  refine ((Opn.sliceA (t := 28) (sz := 18) (bt := 160) (by kernel_rfl) (by kernel_rfl) (by kernel_rfl) (by decide) (op_gd ih)).mono (Nat.le_succ n)).map (fun l => l) (fun l => ?_) (fun l h => ⟨h.1, by have := h.2; unfold reachBytes at this; omega⟩)
  show [AV.sl 18 (encGl l) none] = _
  rw [encGl_ag]
theorem op_pr : ∀ n, Opn enc Tryz.prog W base sp hd n 31 cellsRl OkR
  | 0 => Opn.zero
  | n + 1 => by
    have ih := op_pr n
    have hf := OpnF.cons (f := ⟨"Kind", 24, 0, false, "", "", 0⟩) (Opn.u8 (enc := enc) (P := Tryz.prog) (W := W) (base := base) (sp := sp) (hd := hd) (by kernel_rfl) n) rfl 1 (by kernel_rfl) (OpnF.cons (f := ⟨"C", 3, 1, false, "", "", 8⟩) (Opn.i64 (by kernel_rfl) n) rfl 1 (by kernel_rfl)
      (OpnF.cons (f := ⟨"V", 3, 2, false, "", "", 16⟩) (Opn.i64 (by kernel_rfl) n) rfl 1 (by kernel_rfl) (OpnF.cons (f := ⟨"Item", 25, 3, false, "", "", 24⟩) (Opn.u8 (by kernel_rfl) n) rfl 1 (by kernel_rfl)
      (OpnF.cons (f := ⟨"To", 26, 4, false, "", "", 32⟩) (op_pls n) rfl 1 (by kernel_rfl) (OpnF.cons (f := ⟨"E", 27, 5, false, "", "", 56⟩) (op_kes n) rfl 1 (by kernel_rfl)
      (OpnF.cons (f := ⟨"Guards", 28, 6, false, "", "", 80⟩) (op_gds ih) rfl 1 (by kernel_rfl) (OpnF.cons (f := ⟨"L", 29, 7, false, "", "", 104⟩) (op_prs ih) rfl 1 (by kernel_rfl) OpnF.nil)))))))
    refine (Opn.struct (t := 31) (sz := 8) (fs := #[⟨"Kind", 24, 0, false, "", "", 0⟩, ⟨"C", 3, 1, false, "", "", 8⟩, ⟨"V", 3, 2, false, "", "", 16⟩, ⟨"Item", 25, 3, false, "", "", 24⟩, ⟨"To", 26, 4, false, "", "", 32⟩, ⟨"E", 27, 5, false, "", "", 56⟩, ⟨"Guards", 28, 6, false, "", "", 80⟩, ⟨"L", 29, 7, false, "", "", 104⟩]) (by kernel_rfl) (by kernel_rfl) hf (by kernel_rfl)).map (fun p => ⟨p.1, p.2.1, p.2.2.1, p.2.2.2.1, p.2.2.2.2.1, p.2.2.2.2.2.1, p.2.2.2.2.2.2.1, p.2.2.2.2.2.2.2.1⟩) (fun p => rfl) (fun p hp => ?_)
    obtain ⟨h1, h2, h3, h4, ⟨h5, h5'⟩, h6, ⟨h7, h7'⟩, ⟨h8, h8'⟩, _⟩ := hp
    have h9 := wfRl_of h8
    have h10 := wfGl_of h7
    refine ⟨?_, ?_⟩
    · rw [wfR]; exact ⟨⟨h5, h6, h5', h7', h8'⟩, h10.1, h9.1⟩
    · rw [bodR]; exact ⟨h10.2, h9.2⟩
theorem op_vars (n : Nat) : Opn enc Tryz.prog W base sp hd n 22 (fun l : List KV => [varsA l]) (fun l => l.length ≤ 281474976710656) := by
  have hf := OpnF.cons (f := ⟨"Kind", 25, 0, false, "", "", 0⟩) (Opn.u8 (enc := enc) (P := Tryz.prog) (W := W) (base := base) (sp := sp) (hd := hd) (by kernel_rfl) n) rfl 1 (by kernel_rfl) (OpnF.cons (f := ⟨"Dim", 3, 1, false, "", "", 8⟩) (Opn.i64 (by kernel_rfl) n) rfl 1 (by kernel_rfl) OpnF.nil)
  have hv : Opn enc Tryz.prog W base sp hd n 87 (fun v : KV => [AU8 v.kind, AI v.dim]) (fun _ => True) := ((Opn.struct (t := 87) (sz := 2) (fs := #[⟨"Kind", 25, 0, false, "", "", 0⟩, ⟨"Dim", 3, 1, false, "", "", 8⟩]) (by kernel_rfl) (by kernel_rfl) hf (by kernel_rfl)).mono (Nat.le_succ n)).map (fun p => ⟨p.1, p.2.1⟩) (fun p => rfl) (fun p hp => trivial)
  exact ((Opn.sliceA (t := 22) (sz := 2) (bt := 16) (by kernel_rfl) (by kernel_rfl) (by kernel_rfl) (by decide) hv).mono (Nat.le_succ n)).map (fun l => l) (fun l => rfl) (fun l h => by have := h.2; unfold reachBytes at this; omega)
theorem op_chans (n : Nat) : Opn enc Tryz.prog W base sp hd n 23 (fun l : List Int => [chsA l]) (fun l => l.length ≤ 281474976710656) :=
  ((Opn.slice1 (t := 23) (e := 89) (bt := 1) (by kernel_rfl) (by kernel_rfl) (by kernel_rfl) (Opn.u8 (by kernel_rfl) n)).mono (Nat.le_succ n)).map (fun l => l) (fun l => rfl) (fun l h => by have := h.2; unfold reachBytes at this; omega)
theorem op_ints (n : Nat) : Opn enc Tryz.prog W base sp hd n 32 (fun l : List Int => [intsA l]) (fun l => l.length ≤ 281474976710656) :=
  ((Opn.slice1 (t := 32) (e := 3) (bt := 8) (by kernel_rfl) (by kernel_rfl) (by kernel_rfl) (Opn.i64 (by kernel_rfl) n)).mono (Nat.le_succ n)).map (fun l => l) (fun l => rfl) (fun l h => by have := h.2; unfold reachBytes at this; omega)
abbrev cellsN (k : KN) : List AV := [varsA k.vars, chsA k.chans, AU8 k.root.kind, AI k.root.c, AI k.root.v, AU8 k.root.item, plsA k.root.to, kesA k.root.e, gsA k.root.gs, rsA k.root.l, intsA k.procs]
theorem op_kernel (n : Nat) : Opn enc Tryz.prog W base sp hd n 34 cellsN (fun k => WfN k ∧ bodR k.root) := by
  have hf := OpnF.cons (f := ⟨"Vars", 22, 0, false, "", "", 0⟩) (op_vars (enc := enc) (W := W) (base := base) (sp := sp) (hd := hd) n) rfl 1 (by kernel_rfl) (OpnF.cons (f := ⟨"Chans", 23, 1, false, "", "", 24⟩) (op_chans n) rfl 1 (by kernel_rfl)
    (OpnF.cons (f := ⟨"Root", 31, 2, false, "", "", 48⟩) (op_pr n) rfl 8 (by kernel_rfl) (OpnF.cons (f := ⟨"Procs", 32, 10, false, "", "", 176⟩) (op_ints n) rfl 1 (by kernel_rfl) OpnF.nil)))
  refine ((Opn.struct (t := 34) (sz := 11) (fs := #[⟨"Vars", 22, 0, false, "", "", 0⟩, ⟨"Chans", 23, 1, false, "", "", 24⟩, ⟨"Root", 31, 2, false, "", "", 48⟩, ⟨"Procs", 32, 10, false, "", "", 176⟩]) (by kernel_rfl) (by kernel_rfl) hf (by kernel_rfl)).mono (Nat.le_succ n)).map (fun p => ⟨p.1, p.2.1, p.2.2.1, p.2.2.2.1⟩) (fun p => rfl) (fun p hp => ?_)
  obtain ⟨h1, h2, h3, h4, _⟩ := hp
  exact ⟨⟨h1, h2, h4, h3.1⟩, h3.2⟩
theorem argKern {v : Value} {d : DataW H} {p : List MemPlace} (hval : Value.okWide Tryz.prog W .any base 34 v) (h : DataW.Trod enc Tryz.prog W 0 (fun _ => true) true 34 v d p) (hw : Wt Tryz.prog 34 d) :
    ∃ k : KN, (WfN k ∧ bodR k.root) ∧ Rp (hOf W) (encN k) v := by
  obtain ⟨k, h1, h2⟩ := arg_struct (fs := #[⟨"Vars", 22, 0, false, "", "", 0⟩, ⟨"Chans", 23, 1, false, "", "", 24⟩, ⟨"Root", 31, 2, false, "", "", 48⟩, ⟨"Procs", 32, 10, false, "", "", 176⟩]) (by kernel_rfl) op_kernel hval h hw
  exact ⟨k, h1, h2⟩
end
end Go.Proofs.YtgmeahcclogfmaaGreatDoor
