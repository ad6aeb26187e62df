/-
  Texts Q23b Q23c Q23d Q23e R23f R23p R23q R23g Q23p Q23q, in one. Conditions: as each theorem says.
-/
import Derived.Test.YtgmeahcclogfmaaDoorM3
import Derived.Test.YtgmeahcclogfmaaDoorM2
import Derived.Test.YtgmeahcclogfmaaDoorLh
/-!
  Chapter 23: large, Same.
-/
namespace Go.Proofs.YtgmeahcclogfmaaDoor
open Go Go.Tp
set_option linter.unusedVariables false
set_option linter.unusedSimpArgs false
set_option maxRecDepth 100000
set_option maxHeartbeats 4000000
/-! ### large -/
structure ShortN (c : Procs) : Prop where
  procs : c.length ≤ 281474976710656
  steps : ∀ p, p ∈ c → p.length ≤ 281474976710656
  uses : ∀ p, p ∈ c → ∀ s, s ∈ p → s.length ≤ 281474976710656
def largeB (c : Procs) : Bool := decide (20 < c.length) || (c.any fun p => decide (70 < p.length)) || decide (200 < sizeN c)
theorem small_of {c : Procs} (h : largeB c = false) : Small c := by
  simp only [largeB, Bool.or_eq_false_iff, decide_eq_false_iff_not, List.any_eq_false, decide_eq_true_eq] at h
  exact ⟨by omega, fun p hp => by have := h.1.2 p hp; omega, by omega⟩
def restB (c : Procs) (acc : Nat) : Bool := (c.any fun p => decide (70 < p.length)) || decide (200 < acc + sizeN c)
theorem large_p (n : Int) (c : Procs) (hs : ShortN c) : Pure Tryd.prog gs0 4 [netA n c] (AB (largeB c)) := by
  have hcl : ((c.map procA).length : Int) = c.length := by rw [List.length_map]
  by_cases h20 : 20 < c.length
  · refine Pure.of (S := tt) (fn := Tryd.f4) (n := 48) tt_ok Tryd.func4 rfl rfl rfl rfl fun w0 h0 F hgs => ?_
    (repeat first|refine A.s rfl ?_|refine A.r rfl rfl ?_|refine A.b rfl fun bx=>?_)
    refine A.valE 9 rfl (x' := AB true) (ab_eq (by simp; omega)) ?_
    (repeat refine A.s rfl ?_); refine A.ret1 (Λ' := []) rfl rfl rfl (List.nil_sublist _) ⟨?_, rfl⟩; exact Sb.eq (ab_eq (by simp [largeB, h20]))
  refine Pure.of (S := tt) (fn := Tryd.f4) (n := 48) tt_ok Tryd.func4 rfl rfl rfl rfl fun w0 h0 F hgs => ?_
  (repeat first|refine A.s rfl ?_|refine A.r rfl rfl ?_|refine A.b rfl fun bx=>?_)
  refine A.valE 9 rfl (x' := AB false) (ab_eq (by simp; omega)) ?_
  (repeat refine A.s rfl ?_)
  refine A.keep [1, 3, 4] rfl ?_
  refine A.loopP (ι := Nat × Nat) (fun p => (⟨[(1, .v (.pointer (some ⟨_, 0, none⟩))), (3, AI (p.2 : Nat)), (4, AI (p.1 : Nat))], []⟩, [.box _ (.ag [AI n, procsA c])]))
    (fun p => p.1 ≤ c.length ∧ p.2 ≤ p.1 * (71 * 281474976710657) ∧ restB (c.drop p.1) p.2 = largeB c) (fun p => c.length - p.1) (0, 0) ⟨by omega, by omega, by simp [restB, largeB, h20]⟩ rfl fun p hi ih => ?_
  obtain ⟨i, acc⟩ := p
  simp only at hi ih ⊢
  (repeat first|refine A.s rfl ?_|refine A.r rfl rfl ?_)
  refine A.cond rfl (fun hc => ?_) (fun hc => ?_)
  · simp at hc
    refine Exists.elim (at_exN (l := c) (i := i) hc) fun p hp => ?_
    have hpm : p ∈ c := List.mem_of_getElem? hp
    have hpl : ((p.map rowI).length : Int) = p.length := by rw [List.length_map]
    (repeat first|refine A.s rfl ?_|refine A.r rfl rfl ?_)
    refine A.x rfl (by omega) (map_at hp) rfl rfl ?_
    (repeat refine A.s rfl ?_)
    by_cases h70 : 70 < p.length
    · refine A.valE 23 rfl (x' := AB true) (ab_eq (by simp; omega)) ?_
      (repeat refine A.s rfl ?_); refine A.ret1 (Λ' := []) rfl rfl rfl (List.nil_sublist _) ⟨?_, rfl⟩; refine Sb.eq (ab_eq ?_)
      rw [← hi.2.2, drop_at hp, restB]; simp [h70]
    refine A.valE 23 rfl (x' := AB false) (ab_eq (by simp; omega)) ?_
    (repeat refine A.s rfl ?_)
    refine A.keep [1, 3, 4, 5] rfl ?_
    refine A.loopP (ι := Nat × Nat) (fun q => (⟨[(1, .v (.pointer (some ⟨_, 0, none⟩))), (3, AI (q.2 : Nat)), (4, AI (i : Nat)), (5, AI (q.1 : Nat))], []⟩, [.box _ (.ag [AI n, procsA c])]))
      (fun q => q.1 ≤ p.length ∧ q.2 ≤ acc + q.1 * 281474976710657 ∧ q.2 + sizeP (p.drop q.1) = acc + sizeP p) (fun q => p.length - q.1) (0, acc) ⟨by omega, by omega, by simp⟩ rfl fun q hj jh => ?_
    obtain ⟨j, acc'⟩ := q
    simp only at hj jh ⊢
    (repeat first|refine A.s rfl ?_|refine A.r rfl rfl ?_)
    refine A.x rfl (by omega) (map_at hp) rfl rfl ?_
    (repeat refine A.s rfl ?_)
    refine A.cond rfl (fun hc => ?_) (fun hc => ?_)
    · simp at hc
      refine Exists.elim (at_exN (l := p) (i := j) hc) fun s hs' => ?_
      have hsm : s ∈ p := List.mem_of_getElem? hs'
      have hsl : ((s.map AI).length : Int) = s.length := by rw [List.length_map]
      have hu := hs.uses p hpm s hsm
      (repeat first|refine A.s rfl ?_|refine A.r rfl rfl ?_)
      refine A.x rfl (by omega) (map_at hp) rfl rfl ?_
      (repeat refine A.s rfl ?_)
      refine A.x rfl (by omega) (map_at hs') rfl rfl ?_
      (repeat refine A.s rfl ?_)
      refine A.valE 3 rfl (x' := AI ((acc' + 1 + s.length : Nat) : Int)) (ai_eq ?_) ?_
      · rw [List.length_map, w64_id (n := (acc' : Int) + 1) (by unfold i64; omega), w64_id (by unfold i64; omega)]; push_cast; omega
      refine A.valE 5 rfl (x' := AI ((j + 1 : Nat) : Int)) (inc_eq j (by omega)) ?_
      refine A.sub (by repeat (first | exact trivial | refine ⟨⟨_, rfl, .refl⟩, ?_⟩)) (jh (j + 1, acc' + 1 + s.length) ⟨by omega, by simp only; omega, ?_⟩ (by simp only; omega))
      have h3 := hj.2.2
      rw [drop_at hs', sizeP_cons] at h3
      simp only
      omega
    · simp at hc
      (repeat refine A.s rfl ?_)
      refine A.valE 4 rfl (x' := AI ((i + 1 : Nat) : Int)) (inc_eq i (by omega)) ?_
      refine A.sub (by repeat (first | exact trivial | refine ⟨⟨_, rfl, .refl⟩, ?_⟩)) (ih (i + 1, acc') ⟨by omega, by simp only; omega, ?_⟩ (by simp only; omega))
      have h3 := hj.2.2
      have h4 := hi.2.2
      have hjl : j = p.length := by omega
      rw [hjl, List.drop_length] at h3
      rw [drop_at hp] at h4
      simp only [sizeP, List.map_nil, List.sum_nil, Nat.add_zero] at h3
      rw [← h4]
      simp only [restB, List.any_cons, sizeN_cons, h3, sizeP, decide_eq_false h70, Bool.false_or, Nat.add_assoc]
  · simp at hc
    have hil : i = c.length := by omega
    subst hil
    (repeat refine A.s rfl ?_); refine A.ret1 (Λ' := []) rfl rfl rfl (List.nil_sublist _) ⟨?_, rfl⟩; refine Sb.eq (ab_eq ?_)
    rw [← hi.2.2, List.drop_length]
    simp [restB, sizeN]
    omega
/-! ### Same -/
def sameL (a b : List Int) : Bool := decide (a = b)
theorem same_p (a b : List Int) (ha : a.length ≤ 281474976710656) : Pure Tryd.prog gs0 14 [rowI a, rowI b] (AB (sameL a b)) := by
  have hal : ((a.map AI).length : Int) = a.length := by rw [List.length_map]
  have hbl : ((b.map AI).length : Int) = b.length := by rw [List.length_map]
  by_cases hl : a.length = b.length
  case neg =>
    refine Pure.of (S := tt) (fn := Tryd.f14) (n := 26) tt_ok Tryd.func14 rfl rfl rfl rfl fun w0 h0 F hgs => ?_
    (repeat refine A.s rfl ?_)
    refine A.valE 10 rfl (x' := AB true) (ab_eq (by simp; omega)) ?_
    (repeat refine A.s rfl ?_); refine A.ret1 (Λ' := []) rfl rfl rfl (List.nil_sublist _) ⟨?_, rfl⟩; refine Sb.eq (ab_eq ?_); simp [sameL]; rintro rfl; exact hl rfl
  refine Pure.of (S := tt) (fn := Tryd.f14) (n := 26) tt_ok Tryd.func14 rfl rfl rfl rfl fun w0 h0 F hgs => ?_
  (repeat refine A.s rfl ?_)
  refine A.valE 10 rfl (x' := AB false) (ab_eq (by simp; omega)) ?_
  (repeat refine A.s rfl ?_)
  refine A.keep [0, 1, 5] rfl ?_
  refine A.loopP (ι := Nat) (fun i => (⟨[(0, rowI a), (1, rowI b), (5, AI (i : Nat))], []⟩, [])) (fun i => i ≤ a.length ∧ a.take i = b.take i) (fun i => a.length - i) 0 ⟨by omega, by simp⟩ rfl fun i hi ih => ?_
  (repeat refine A.s rfl ?_)
  refine A.cond rfl (fun hc => ?_) (fun hc => ?_)
  · simp at hc
    refine Exists.elim (at_exN (l := a) (i := i) hc) fun x hx => ?_
    refine Exists.elim (at_exN (l := b) (i := i) (by omega)) fun y hy => ?_
    (repeat refine A.s rfl ?_)
    refine A.draw 8 [0, 1, 2, 3, 4, 5, 6, 7] noPubs [] (by kernel_rfl) (by kernel_rfl) ?_
    (repeat refine WA.s rfl ?_)
    refine WA.x rfl (by omega) (map_at hx) rfl rfl ?_
    (repeat refine WA.s rfl ?_)
    refine WA.x rfl (by omega) (map_at hy) rfl rfl ?_
    (repeat refine WA.s rfl ?_)
    refine WA.nil (l := []) rfl ?_
    (repeat refine A.s rfl ?_)
    refine A.cond rfl (fun hc => ?_) (fun hc => ?_)
    · simp at hc
      (repeat refine A.s rfl ?_); refine A.ret1 (Λ' := []) rfl rfl rfl (List.nil_sublist _) ⟨?_, rfl⟩; refine Sb.eq (ab_eq ?_); simp [sameL]; rintro rfl
      rw [hx] at hy; injection hy with hy; exact hc hy
    · simp at hc
      (repeat refine A.s rfl ?_)
      refine A.valE 5 rfl (x' := AI ((i + 1 : Nat) : Int)) (inc_eq i (by omega)) ?_
      refine A.sub (by repeat (first | exact trivial | refine ⟨⟨_, rfl, .refl⟩, ?_⟩)) (ih (i + 1) ⟨by omega, ?_⟩ (by omega))
      rw [List.take_add_one, List.take_add_one, hi.2, hx, hy, hc]
  · simp at hc
    have : i = a.length := by omega
    subst this
    have h2 := hi.2
    rw [List.take_length, hl, List.take_length] at h2
    (repeat refine A.s rfl ?_); refine A.ret1 (Λ' := []) rfl rfl rfl (List.nil_sublist _) ⟨?_, rfl⟩; refine Sb.eq (ab_eq ?_); simp [sameL, h2]
end Go.Proofs.YtgmeahcclogfmaaDoor
/-!
  Chapter 23: before.
-/
namespace Go.Proofs.YtgmeahcclogfmaaDoor
open Go Go.Tp
set_option linter.unusedVariables false
set_option linter.unusedSimpArgs false
set_option maxRecDepth 100000
set_option maxHeartbeats 4000000
def InB (c : Procs) : Prop := ∀ p, p ∈ c → ∀ s, s ∈ p → ∀ x, x ∈ s → 0 ≤ x ∧ x < 64
def addD (x : Nat) (g : Nat → W64) (d : Int) : Nat → W64 := upd g x (g x ||| bitW d.toNat)
def addX (a : List Int) (g : Nat → W64) (x : Int) : Nat → W64 := a.foldl (addD x.toNat) g
def addS (g : Nat → W64) (ab : List Int × List Int) : Nat → W64 := ab.2.foldl (addX ab.1) g
def addP (g : Nat → W64) (p : List (List Int)) : Nat → W64 := (p.zip p.tail).foldl addS g
def beforeF (c : Procs) : Nat → W64 := c.foldl addP fun _ => 0
theorem zip_at {p : List (List Int)} {j : Nat} {a b : List Int} (ha : p[j]? = some a) (hb : p[j + 1]? = some b) : (p.zip p.tail)[j]? = some (a, b) := by
  rw [List.getElem?_zip_eq_some]; exact ⟨ha, by rw [List.getElem?_tail]; exact hb⟩
theorem nat_of {x : Int} (h : 0 ≤ x ∧ x < 64) : ∃ n : Nat, n < 64 ∧ x = n := ⟨x.toNat, by omega, by omega⟩
theorem before_p (n : Int) (c : Procs) (hs : ShortN c) (hb : InB c) : Pure Tryd.prog gs0 21 [netA n c] (.ag (setL (beforeF c))) := by
  have hcl : ((c.map procA).length : Int) = c.length := by rw [List.length_map]
  refine Pure.of (S := tt) (fn := Tryd.f21) (n := 53) tt_ok Tryd.func21 rfl rfl rfl rfl fun w0 h0 F hgs => ?_
  (repeat first|refine A.s rfl ?_|refine A.r rfl rfl ?_|refine A.b rfl fun bx=>?_)
  refine A.headEq (.ag (setL fun _ => 0)) (by kernel_rfl) ?_
  refine A.valE 12 rfl (x' := AI (c.length : Nat)) (ai_eq (by rw [List.length_map])) ?_
  refine A.keep [2, 11, 12, 13] rfl ?_
  refine A.loopP (ι := Nat × (Nat → W64)) (fun p => (⟨[(2, .v (.pointer (some ⟨_, 0, none⟩))), (11, procsA c), (12, AI (c.length : Nat)), (13, AI (p.1 : Nat))], []⟩, [.box _ (.ag (setL p.2)), .box _ (.ag [AI n, procsA c])]))
    (fun p => p.1 ≤ c.length ∧ (c.drop p.1).foldl addP p.2 = beforeF c) (fun p => c.length - p.1) (0, fun _ => 0) ⟨by omega, rfl⟩ rfl fun q hi ih => ?_
  obtain ⟨i, g0⟩ := q
  simp only at hi ih ⊢
  have hcb := hs.procs
  (repeat refine A.s rfl ?_)
  refine A.cond rfl (fun hc => ?_) (fun hc => ?_)
  · simp at hc
    refine Exists.elim (at_exN (l := c) (i := i) hc) fun p hp => ?_
    have hpm : p ∈ c := List.mem_of_getElem? hp
    have hpl : ((p.map rowI).length : Int) = p.length := by rw [List.length_map]
    have hpb := hs.steps p hpm
    (repeat refine A.s rfl ?_)
    refine A.x rfl (by omega) (map_at hp) rfl rfl ?_
    (repeat refine A.s rfl ?_)
    refine A.keep [2, 4, 5, 11, 12, 13] rfl ?_
    refine A.loopP (ι := Nat × (Nat → W64)) (fun q => (⟨[(2, .v (.pointer (some ⟨_, 0, none⟩))), (4, procA p), (5, AI ((q.1 + 1 : Nat) : Int)), (11, procsA c), (12, AI (c.length : Nat)), (13, AI (i : Nat))], []⟩, [.box _ (.ag (setL q.2)), .box _ (.ag [AI n, procsA c])]))
      (fun q => q.1 ≤ p.length ∧ ((p.zip p.tail).drop q.1).foldl addS q.2 = addP g0 p) (fun q => p.length - q.1) (0, g0) ⟨by omega, rfl⟩ rfl fun q hj jh => ?_
    obtain ⟨j, g1⟩ := q
    simp only at hj jh ⊢
    (repeat refine A.s rfl ?_)
    refine A.cond rfl (fun hc => ?_) (fun hc => ?_)
    · simp at hc
      refine Exists.elim (at_exN (l := p) (i := j + 1) (by omega)) fun b hb1 => ?_
      refine Exists.elim (at_exN (l := p) (i := j) (by omega)) fun a ha1 => ?_
      have hbm : b ∈ p := List.mem_of_getElem? hb1
      have ham : a ∈ p := List.mem_of_getElem? ha1
      have hab := hs.uses p hpm a ham
      have hbb := hs.uses p hpm b hbm
      have hz := zip_at ha1 hb1
      have h2 := hj.2
      rw [drop_at hz, List.foldl_cons] at h2
      (repeat refine A.s rfl ?_)
      refine A.x rfl (by omega) (map_at hb1) rfl rfl ?_
      (repeat refine A.s rfl ?_)
      refine A.valE 27 rfl (x' := AI (b.length : Nat)) (ai_eq (by rw [List.length_map])) ?_
      refine A.keep [2, 4, 5, 11, 12, 13, 26, 27, 28] rfl ?_
      refine A.loopP (ι := Nat × (Nat → W64)) (fun q => (⟨[(2, .v (.pointer (some ⟨_, 0, none⟩))), (4, procA p), (5, AI ((j + 1 : Nat) : Int)), (11, procsA c), (12, AI (c.length : Nat)), (13, AI (i : Nat)), (26, rowI b), (27, AI (b.length : Nat)), (28, AI (q.1 : Nat))], []⟩, [.box _ (.ag (setL q.2)), .box _ (.ag [AI n, procsA c])]))
        (fun q => q.1 ≤ b.length ∧ (b.drop q.1).foldl (addX a) q.2 = addS g1 (a, b)) (fun q => b.length - q.1) (0, g1) ⟨by omega, rfl⟩ rfl fun q hk kh => ?_
      obtain ⟨k1, g2⟩ := q
      simp only at hk kh ⊢
      (repeat refine A.s rfl ?_)
      refine A.cond rfl (fun hc => ?_) (fun hc => ?_)
      · simp at hc
        refine Exists.elim (at_exN (l := b) (i := k1) hc) fun x0 hx0 => ?_
        refine Exists.elim (nat_of (hb p hpm b hbm x0 (List.mem_of_getElem? hx0))) fun x hx1 => ?_
        have hx : b[k1]? = some (x : Int) := by rw [hx0, hx1.2]
        have h3 := hk.2
        rw [drop_at hx, List.foldl_cons] at h3
        (repeat refine A.s rfl ?_)
        refine A.x rfl (by omega) (map_at hx) rfl rfl ?_
        (repeat refine A.s rfl ?_)
        refine A.valE 34 rfl (x' := AI (j : Nat)) (ai_eq (by rw [w64_id (by unfold i64; omega)]; omega)) ?_
        skip
        refine A.x rfl (by omega) (map_at ha1) rfl rfl ?_
        (repeat refine A.s rfl ?_)
        refine A.valE 37 rfl (x' := AI (a.length : Nat)) (ai_eq (by rw [List.length_map])) ?_
        refine A.keep [2, 4, 5, 7, 11, 12, 13, 26, 27, 28, 36, 37, 38] rfl ?_
        refine A.loopP (ι := Nat × (Nat → W64)) (fun q => (⟨[(2, .v (.pointer (some ⟨_, 0, none⟩))), (4, procA p), (5, AI ((j + 1 : Nat) : Int)), (7, AI (x : Nat)), (11, procsA c), (12, AI (c.length : Nat)), (13, AI (i : Nat)), (26, rowI b), (27, AI (b.length : Nat)), (28, AI (k1 : Nat)), (36, rowI a), (37, AI (a.length : Nat)), (38, AI (q.1 : Nat))], []⟩, [.box _ (.ag (setL q.2)), .box _ (.ag [AI n, procsA c])]))
          (fun q => q.1 ≤ a.length ∧ (a.drop q.1).foldl (addD x) q.2 = addX a g2 x) (fun q => a.length - q.1) (0, g2) ⟨by omega, by simp [addX]⟩ rfl fun q hm mh => ?_
        obtain ⟨m1, g3⟩ := q
        simp only at hm mh ⊢
        (repeat refine A.s rfl ?_)
        refine A.cond rfl (fun hc => ?_) (fun hc => ?_)
        · simp at hc
          refine Exists.elim (at_exN (l := a) (i := m1) hc) fun d0 hd0 => ?_
          refine Exists.elim (nat_of (hb p hpm a ham d0 (List.mem_of_getElem? hd0))) fun d hd1 => ?_
          have hd : a[m1]? = some (d : Int) := by rw [hd0, hd1.2]
          have h4 := hm.2
          rw [drop_at hd, List.foldl_cons] at h4
          (repeat refine A.s rfl ?_)
          refine A.x rfl (by omega) (map_at hd) rfl rfl ?_
          (repeat refine A.s rfl ?_)
          refine A.draw 5 [0, 1, 2, 3, 4] noPubs [] (by kernel_rfl) (by kernel_rfl) ?_
          (repeat refine WA.s rfl ?_)
          refine WA.xa rfl (p := x) (by omega) (by omega) (off1 x) rfl ?_
          refine WA.ra rfl (range_at _ hx1.1) rfl ?_
          (repeat refine WA.s rfl ?_)
          refine WA.shift rfl rfl rfl rfl rfl rfl rfl (by omega) ?_
          refine WA.nil (l := []) rfl ?_
          refine A.valE 46 rfl (x' := U64 (bitW d)) (u64_eq (ushl d hd1.1)) ?_
          (repeat refine A.s rfl ?_)
          refine A.valE 47 rfl (x' := U64 (g3 x ||| bitW d)) (u64_eq (uor _ _)) ?_
          refine A.xa rfl (p := x) (by omega) (by omega) (off1 x) rfl ?_
          refine A.wa rfl rfl (by simp; omega) (range_set U64 g3 x (g3 x ||| bitW d)) ?_
          (repeat refine A.s rfl ?_)
          refine A.valE 38 rfl (x' := AI ((m1 + 1 : Nat) : Int)) (inc_eq m1 (by omega)) ?_
          refine A.sub (by repeat (first | exact trivial | refine ⟨⟨_, rfl, .refl⟩, ?_⟩)) (mh (m1 + 1, upd g3 x (g3 x ||| bitW d)) ⟨by omega, h4⟩ (by simp only; omega))
        · simp at hc
          have hml : m1 = a.length := by omega
          have h4 := hm.2
          rw [hml, List.drop_length, List.foldl_nil] at h4
          (repeat refine A.s rfl ?_)
          refine A.valE 28 rfl (x' := AI ((k1 + 1 : Nat) : Int)) (inc_eq k1 (by omega)) ?_
          refine A.sub (by repeat (first | exact trivial | refine ⟨⟨_, rfl, .refl⟩, ?_⟩)) (kh (k1 + 1, g3) ⟨by omega, by rw [h4]; exact h3⟩ (by simp only; omega))
      · simp at hc
        have hkl : k1 = b.length := by omega
        have h3 := hk.2
        rw [hkl, List.drop_length, List.foldl_nil] at h3
        (repeat refine A.s rfl ?_)
        refine A.valE 5 rfl (x' := AI ((j + 1 + 1 : Nat) : Int)) (inc_eq (j + 1) (by omega)) ?_
        refine A.sub (by repeat (first | exact trivial | refine ⟨⟨_, rfl, .refl⟩, ?_⟩)) (jh (j + 1, g2) ⟨by omega, by rw [h3]; exact h2⟩ (by simp only; omega))
    · simp at hc
      have hzl : (p.zip p.tail).drop j = [] := List.drop_eq_nil_of_le (by rw [List.length_zip, List.length_tail]; omega)
      have h2 := hj.2
      rw [hzl, List.foldl_nil] at h2
      have h1 := hi.2
      rw [drop_at hp, List.foldl_cons] at h1
      (repeat refine A.s rfl ?_)
      refine A.valE 13 rfl (x' := AI ((i + 1 : Nat) : Int)) (inc_eq i (by omega)) ?_
      refine A.sub (by repeat (first | exact trivial | refine ⟨⟨_, rfl, .refl⟩, ?_⟩)) (ih (i + 1, g1) ⟨by omega, by rw [h2]; exact h1⟩ (by simp only; omega))
  · simp at hc
    have hil : i = c.length := by omega
    have h1 := hi.2
    rw [hil, List.drop_length, List.foldl_nil] at h1
    (repeat refine A.s rfl ?_)
    refine A.la rfl (arr_len _) rfl ?_
    refine A.wl rfl (set_one _) (arr_len _) (arr_len _) ?_
    (repeat refine A.s rfl ?_)
    refine A.retC (Λ' := []) rfl rfl rfl rfl (ldA_all rfl (arr_len _)) (List.nil_sublist _) ⟨?_, rfl⟩
    rw [h1]; exact .refl
end Go.Proofs.YtgmeahcclogfmaaDoor
/-!
  Chapter 23: far.
-/
namespace Go.Proofs.YtgmeahcclogfmaaDoor
open Go Go.Tp
set_option linter.unusedVariables false
set_option linter.unusedSimpArgs false
set_option maxRecDepth 100000
set_option maxHeartbeats 4000000
/-! ### sets, channel by channel -/
def orB (P : Nat → Bool) (m : Nat) : W64 := (List.range m).foldl (fun w x => if P x then w ||| bitW x else w) 0
theorem orB_succ (P : Nat → Bool) (m : Nat) : orB P (m + 1) = if P m then orB P m ||| bitW m else orB P m := by
  rw [orB, List.range_succ, List.foldl_append]; rfl
theorem orB_get (P : Nat → Bool) (m : Nat) (hm : m ≤ 64) (x : Nat) : (orB P m).getLsbD x = (decide (x < m) && P x) := by
  induction m with
  | zero => simp [orB]
  | succ m ih =>
    have ih := ih (by omega)
    rw [orB_succ]
    by_cases hx : x = m
    · subst hx
      cases hp : P x
      · simp [ih, hp]
      · simp [BitVec.getLsbD_or, ih, hp, bitW_get _ _ (show x < 64 by omega)]
    · have h1 : decide (x < m + 1) = decide (x < m) := by rw [Bool.eq_iff_iff]; simp; omega
      cases hp : P m
      · simp [ih, h1]
      · simp [BitVec.getLsbD_or, ih, h1, bitW_get _ _ (show m < 64 by omega), hx]
theorem bv_zero (w : W64) : w = 0 ↔ ∀ x, x < 64 → w.getLsbD x = false := by
  constructor
  · rintro rfl x _; simp
  · intro h; apply BitVec.eq_of_getLsbD_eq; intro i hi; simp [h i hi]
def cutU (P : Nat → Bool) (k : Int) (n : Nat → Int) (m : Nat) : Nat → Int := fun y => if decide (y < m) && P y then k else n y
theorem cutU_zero (P : Nat → Bool) (k : Int) (n : Nat → Int) : cutU P k n 0 = n := by funext y; simp [cutU]
theorem cutU_at (P : Nat → Bool) (k : Int) (n : Nat → Int) (m : Nat) : cutU P k n m m = n m := by simp [cutU]
theorem cutU_set {P : Nat → Bool} {k : Int} {n : Nat → Int} {m : Nat} (h : P m = true) : upd (cutU P k n m) m k = cutU P k n (m + 1) := by
  funext y
  simp only [upd, cutU]
  by_cases hy : y = m
  · subst hy; simp [h]
  · have h1 : decide (y < m + 1) = decide (y < m) := by rw [Bool.eq_iff_iff]; simp; omega
    rw [if_neg hy, h1]
theorem cutU_not {P : Nat → Bool} {k : Int} {n : Nat → Int} {m : Nat} (h : P m = false) : cutU P k n m = cutU P k n (m + 1) := by
  funext y
  simp only [cutU]
  by_cases hy : y = m
  · subst hy; simp [h]
  · have h1 : decide (y < m + 1) = decide (y < m) := by rw [Bool.eq_iff_iff]; simp; omega
    rw [h1]
/-! ### far -/
def newB (s : Nat → W64) (w : W64) (n : Nat → Int) (x : Nat) : Bool := n x == 0 && (s x &&& w) != 0
def farR (s : Nat → W64) : Nat → (Nat → Int) → W64 → Int → Nat → Int
  | 0, n, _, _ => n
  | f + 1, n, w, k => if w = 0 then n else farR s f (cutU (newB s w n) k n 64) (orB (newB s w n) 64) (k + 1)
def farF (s : Nat → W64) (to : Nat) : Nat → Int := farR s 66 (fun _ => 0) (bitW to) 1
def zeros (n : Nat → Int) : Nat := (List.range 64).countP fun x => n x == 0
theorem farR_zero (s : Nat → W64) (f : Nat) (n : Nat → Int) (k : Int) : farR s f n 0 k = n := by cases f <;> simp [farR]
theorem countP_lt {α : Type} {p q : α → Bool} {l : List α} (h : ∀ x, x ∈ l → q x = true → p x = true) {x : α} (hx : x ∈ l) (h1 : p x = true) (h2 : q x = false) : l.countP q < l.countP p := by
  induction l with
  | nil => cases hx
  | cons y l ih =>
    have hle : l.countP q ≤ l.countP p := List.countP_mono_left fun z hz => h z (List.mem_cons_of_mem _ hz)
    rw [List.countP_cons, List.countP_cons]
    rcases List.mem_cons.1 hx with rfl | hx
    · rw [h1, h2]; simp; omega
    · have := ih (fun z hz => h z (List.mem_cons_of_mem _ hz)) hx
      have h3 := h y (List.mem_cons_self ..)
      cases hq : q y
      · simp; split <;> omega
      · rw [h3 hq]; simp; omega
theorem zeros_lt {s : Nat → W64} {w : W64} {n : Nat → Int} {k : Int} (hk : 1 ≤ k) (h : orB (newB s w n) 64 ≠ 0) : zeros (cutU (newB s w n) k n 64) < zeros n := by
  rw [Ne, bv_zero] at h
  simp only [orB_get _ 64 (Nat.le_refl _)] at h
  have : ∃ x, x < 64 ∧ newB s w n x = true := by
    apply Classical.byContradiction
    intro hn
    apply h
    intro x hx
    cases hp : newB s w n x
    · simp
    · exact (hn ⟨x, hx, hp⟩).elim
  obtain ⟨x, hx, hp⟩ := this
  refine countP_lt (x := x) (fun y hy hq => ?_) (List.mem_range.2 hx) ?_ ?_
  · have hy := List.mem_range.1 hy
    simp only [cutU, hy, decide_true, Bool.true_and] at hq
    split at hq
    · simp at hq; omega
    · exact hq
  · simp only [newB, Bool.and_eq_true] at hp; exact hp.1
  · simp only [cutU, hx, decide_true, Bool.true_and, hp, if_true]; simp; omega
theorem zeros_le (n : Nat → Int) : zeros n ≤ 64 := by
  have := List.countP_le_length (p := fun x => n x == 0) (l := List.range 64)
  rw [List.length_range] at this; exact this
theorem far_p (s : Nat → W64) (to : Nat) (ht : to < 64) : Pure Tryd.prog gs0 22 [.ag (setL s), AI (to : Nat)] (.ag (intL (farF s to))) := by
  refine Pure.of (S := tt) (fn := Tryd.f22) (n := 44) tt_ok Tryd.func22 rfl rfl rfl rfl fun w0 h0 F hgs => ?_
  (repeat refine A.s rfl ?_)
  refine A.bl rfl (set_one s) fun b0 => ?_
  (repeat refine A.s rfl ?_)
  refine A.b rfl fun b1 => ?_
  refine A.headEq (.ag (intL fun _ => 0)) (by kernel_rfl) ?_
  (repeat refine A.s rfl ?_)
  refine A.shift rfl rfl rfl rfl rfl rfl (by omega) ?_
  (repeat refine A.s rfl ?_)
  refine A.valE 6 rfl (x' := U64 (bitW to)) (u64_eq (ushl to ht)) ?_
  skip
  refine A.keep [2, 4, 5, 6, 7] rfl ?_
  refine A.valE 5 rfl (x' := U64 0) rfl ?_
  refine A.keep [2, 4, 5, 6, 7] rfl ?_
  refine A.loopP (ι := (Nat → Int) × W64 × W64 × Nat × Nat) (fun p => (⟨[(2, .v (.pointer (some ⟨b0, 0, none⟩))), (4, .v (.pointer (some ⟨b1, 0, none⟩))), (5, U64 p.2.1), (6, U64 p.2.2.1), (7, AI (p.2.2.2.1 : Nat))], []⟩, [.box b1 (.ag (intL p.1)), .box b0 (.ag (setL s))]))
    (fun p => farR s p.2.2.2.2 p.1 p.2.2.1 (p.2.2.2.1 : Nat) = farF s to ∧ (p.2.2.1 ≠ 0 → zeros p.1 + 1 ≤ p.2.2.2.2) ∧ p.2.2.2.2 + p.2.2.2.1 = 67 ∧ 1 ≤ p.2.2.2.1) (fun p => p.2.2.2.2) (fun _ => 0, 0, bitW to, 1, 66) ⟨rfl, fun _ => by have := zeros_le fun _ => 0; simp only; omega, rfl, by simp⟩ rfl fun q hi ih => ?_
  obtain ⟨n, rch, w, k, f⟩ := q
  simp only at hi ih ⊢
  (repeat refine A.s rfl ?_)
  by_cases hw : w = 0
  · refine A.valE 13 rfl (x' := AB false) (ab_eq (by subst hw; rfl)) ?_
    (repeat refine A.s rfl ?_)
    refine A.la rfl (arr_len _) rfl ?_
    refine A.wl rfl (int_one _) (arr_len _) (arr_len _) ?_
    (repeat refine A.s rfl ?_)
    refine A.retC (Λ' := []) rfl rfl rfl rfl (ldA_all rfl (arr_len _)) (List.nil_sublist _) ⟨?_, rfl⟩
    have h1 := hi.1
    rw [hw, farR_zero] at h1
    rw [h1]; exact .refl
  refine A.valE 13 rfl (x' := AB true) (ab_eq (by
    have h1 : w.toNat ≠ 0 := fun h => hw (BitVec.eq_of_toNat_eq (by rw [h]; rfl))
    simp; omega)) ?_
  have hz := hi.2.1 hw
  obtain ⟨f', rfl⟩ : ∃ f', f = f' + 1 := ⟨f - 1, by omega⟩
  have h1 := hi.1
  rw [farR, if_neg hw] at h1
  (repeat refine A.s rfl ?_)
  refine A.valE 8 rfl (x' := U64 0) rfl ?_
  refine A.keep [2, 4, 5, 6, 7, 8, 16] rfl ?_
  refine A.loopP (ι := Nat) (fun x => (⟨[(2, .v (.pointer (some ⟨b0, 0, none⟩))), (4, .v (.pointer (some ⟨b1, 0, none⟩))), (5, U64 rch), (6, U64 w), (7, AI (k : Nat)), (8, U64 (orB (newB s w n) x)), (16, AI (x : Nat))], []⟩, [.box b1 (.ag (intL (cutU (newB s w n) (k : Nat) n x))), .box b0 (.ag (setL s))]))
    (fun x => x ≤ 64) (fun x => 64 - x) 0 (by omega) (by rw [cutU_zero]; rfl) fun x hx xh => ?_
  (repeat refine A.s rfl ?_)
  refine A.cond rfl (fun hc => ?_) (fun hc => ?_)
  · simp at hc
    have hx64 : x < 64 := by omega
    (repeat refine A.s rfl ?_)
    refine A.xa rfl (p := x) (by omega) (by omega) (off1 x) rfl ?_
    refine A.ra rfl (range_at _ hx64) rfl ?_
    (repeat first|refine A.s rfl ?_|refine A.step rfl ?_)
    refine A.valE 23 rfl (x' := AB (n x == 0)) (ab_eq (by rw [cutU_at])) ?_
    ((fail_if_success (refine A.lit? rfl ?_)); refine A.gS rfl (fun hc => ?_) (fun hc => ?_))
    · skip
      refine A.xa rfl (p := x) (by omega) (by omega) (off1 x) rfl ?_
      refine A.ra rfl (range_at _ hx64) rfl ?_
      (repeat refine A.s rfl ?_)
      refine A.valE 30 rfl (x' := AB (newB s w n x)) (ab_eq ?_) ?_
      · rw [uand, newB, hc, Bool.eq_iff_iff]
        simp only [Bool.true_and, bne_iff_ne, ne_eq, Bool.cond_true]
        apply not_congr
        constructor
        · intro h; exact BitVec.eq_of_toNat_eq (by have h : ((s x &&& w).toNat : Int) = 0 := h; rw [show (0 : W64).toNat = 0 from rfl]; omega)
        · intro h; rw [h]; rfl
      cases hp : newB s w n x with
      | true =>
        (repeat refine A.s rfl ?_)
        refine A.xa rfl (p := x) (by omega) (by omega) (off1 x) rfl ?_
        refine A.wa rfl rfl (by simp; omega) (range_set AI _ x (k : Nat)) ?_
        (repeat refine A.s rfl ?_)
        refine A.shift rfl rfl rfl rfl rfl rfl (by omega) ?_
        (repeat refine A.s rfl ?_)
        refine A.valE 8 rfl (x' := U64 (orB (newB s w n) (x + 1))) (u64_eq ?_) ?_
        · rw [ushl x hx64, uor, orB_succ, hp]; rfl
        refine A.valE 16 rfl (x' := AI ((x + 1 : Nat) : Int)) (inc_eq x (by omega)) ?_
        refine A.headEq (.ag (intL (cutU (newB s w n) (k : Nat) n (x + 1)))) (by rw [cutU_set hp]) ?_
        refine A.sub (by repeat (first | exact trivial | refine ⟨⟨_, rfl, .refl⟩, ?_⟩)) (xh (x + 1) (by omega) (by omega))
      | false =>
        (repeat refine A.s rfl ?_)
        refine A.valE 8 rfl (x' := U64 (orB (newB s w n) (x + 1))) (by rw [orB_succ, hp]; rfl) ?_
        refine A.valE 16 rfl (x' := AI ((x + 1 : Nat) : Int)) (inc_eq x (by omega)) ?_
        refine A.headEq (.ag (intL (cutU (newB s w n) (k : Nat) n (x + 1)))) (by rw [← cutU_not hp]) ?_
        refine A.sub (by repeat (first | exact trivial | refine ⟨⟨_, rfl, .refl⟩, ?_⟩)) (xh (x + 1) (by omega) (by omega))
    · have hp : newB s w n x = false := by rw [newB, hc]; rfl
      (repeat refine A.s rfl ?_)
      refine A.valE 8 rfl (x' := U64 (orB (newB s w n) (x + 1))) (by rw [orB_succ, hp]; rfl) ?_
      refine A.valE 16 rfl (x' := AI ((x + 1 : Nat) : Int)) (inc_eq x (by omega)) ?_
      refine A.headEq (.ag (intL (cutU (newB s w n) (k : Nat) n (x + 1)))) (by rw [← cutU_not hp]) ?_
      refine A.sub (by repeat (first | exact trivial | refine ⟨⟨_, rfl, .refl⟩, ?_⟩)) (xh (x + 1) (by omega) (by omega))
  · simp at hc
    have hx64 : x = 64 := by omega
    subst hx64
    (repeat refine A.s rfl ?_)
    refine A.valE 5 rfl (x' := U64 (rch ||| orB (newB s w n) 64)) (u64_eq (uor _ _)) ?_
    refine A.valE 7 rfl (x' := AI ((k + 1 : Nat) : Int)) (inc_eq k (by omega)) ?_
    refine A.sub (by repeat (first | exact trivial | refine ⟨⟨_, rfl, .refl⟩, ?_⟩)) (ih (cutU (newB s w n) (k : Nat) n 64, rch ||| orB (newB s w n) 64, orB (newB s w n) 64, k + 1, f') ⟨h1, fun h => ?_, by simp only; omega, by simp⟩ (by simp only; omega))
    have := zeros_lt (k := (k : Int)) (by omega) h
    simp only
    omega
end Go.Proofs.YtgmeahcclogfmaaDoor
/-!
  Chapter 23: May.
-/
namespace Go.Proofs.YtgmeahcclogfmaaDoor
open Go Go.Tp
set_option linter.unusedVariables false
set_option linter.unusedSimpArgs false
set_option maxRecDepth 100000
set_option maxHeartbeats 4000000
theorem idxI_p (f : FuncId) (c : List AV) (p : Int → Bool) (hcb : ∀ x, Pure Tryd.prog gs0 f (AI x :: c) (AB (p x))) (l : List Int) (hb : l.length ≤ 281474976710656) :
    Pure Tryd.prog gs0 38 [rowI l, .fn f [] c] (AI (idxF p l 0)) := by
  refine Pure.of (S := tt) (fn := Tryd.f38) (n := 19) tt_ok Tryd.func38 rfl rfl rfl rfl fun w0 h0 F hgs => ?_
  (repeat refine A.s rfl ?_)
  refine A.valE 7 rfl (x' := AI (l.length : Nat)) (ai_eq (by rw [List.length_map])) ?_
  refine A.keep [0, 1, 7, 8] rfl ?_
  refine A.loopP (ι := Nat) (fun i => (⟨[(0, rowI l), (1, .fn f [] c), (7, AI (l.length : Nat)), (8, AI (i : Int))], []⟩, [])) (fun i => i ≤ l.length ∧ idxF p l 0 = idxF p (l.drop i) i) (fun i => l.length - i) 0 ⟨by omega, rfl⟩ rfl fun i hi ih => ?_
  (repeat refine A.s rfl ?_)
  refine A.cond rfl (fun hc => ?_) (fun hc => ?_)
  · simp at hc
    refine Exists.elim (at_exN (l := l) (i := i) hc) fun x hx => ?_
    (repeat refine A.s rfl ?_)
    refine A.x rfl (by omega) (map_at hx) rfl rfl ?_
    (repeat refine A.s rfl ?_)
    refine A.c rfl (hcb x) SbL.refl ?_
    have h1 := hi.2
    rw [drop_at hx, idxF] at h1
    cases hp : p x with
    | true =>
      rw [hp] at h1
      (repeat refine A.s rfl ?_); refine A.ret1 (Λ' := []) rfl rfl rfl (List.nil_sublist _) ⟨?_, rfl⟩; rw [h1]; exact .refl
    | false =>
      rw [hp] at h1
      (repeat refine A.s rfl ?_)
      refine A.valE 8 rfl (x' := AI ((i + 1 : Nat) : Int)) (inc_eq i (by omega)) ?_
      refine A.sub (by repeat (first | exact trivial | refine ⟨⟨_, rfl, .refl⟩, ?_⟩)) (ih (i + 1) ⟨by omega, h1⟩ (by omega))
  · simp at hc
    have : i = l.length := by omega
    subst this
    (repeat refine A.s rfl ?_); refine A.ret1 (Λ' := []) rfl rfl rfl (List.nil_sublist _) ⟨?_, rfl⟩; rw [hi.2, List.drop_length]; exact .refl
theorem hasI_p (f : FuncId) (c : List AV) (p : Int → Bool) (hcb : ∀ x, Pure Tryd.prog gs0 f (AI x :: c) (AB (p x))) (l : List Int) (hb : l.length ≤ 281474976710656) :
    Pure Tryd.prog gs0 31 [rowI l, .fn f [] c] (AB (l.any p)) := by
  refine Pure.of (S := tt) (fn := Tryd.f31) (n := 9) tt_ok Tryd.func31 rfl rfl rfl rfl fun w0 h0 F hgs => ?_
  (repeat refine A.s rfl ?_)
  refine A.c rfl (idxI_p f c p hcb l hb) .refl ?_
  (repeat refine A.s rfl ?_); refine A.ret1 (Λ' := []) rfl rfl rfl (List.nil_sublist _) ⟨?_, rfl⟩; refine Sb.eq (ab_eq ?_); exact idxF_any p l 0
theorem bit1 (a : W64) (x : Nat) : (bitsOf .and .u64 ((a >>> x).toNat : Int) 1 == 1) = a.getLsbD x := by
  have := uand (a >>> x) 1#64
  rw [show ((1#64 : W64).toNat : Int) = 1 from rfl] at this
  rw [this, bit_test]
def oddUse (x : Int) : Bool := x != 0 && x != 2
theorem nmay1_p (x : Int) : Pure Tryd.prog gs0 32 [AI x] (AB (oddUse x)) := by
  refine Pure.of (S := tt) (fn := Tryd.f32) (n := 9) tt_ok Tryd.func32 rfl rfl rfl rfl fun w0 h0 F hgs => ?_
  (repeat refine A.s rfl ?_)
  ((fail_if_success (refine A.lit? rfl ?_)); refine A.gS rfl (fun hc => ?_) (fun hc => ?_))
  · (repeat refine A.s rfl ?_); refine A.ret1 (Λ' := []) rfl rfl rfl (List.nil_sublist _) ⟨?_, rfl⟩; refine Sb.eq (ab_eq ?_); rw [oddUse, hc]; rfl
  · (repeat refine A.s rfl ?_); refine A.ret1 (Λ' := []) rfl rfl rfl (List.nil_sublist _) ⟨?_, rfl⟩; refine Sb.eq (ab_eq ?_); rw [oddUse, hc]; rfl
/-! ### the model -/
def chk (n : Int) (s : W64 × (Nat → Int)) (x : Int) : Option (W64 × (Nat → Int)) :=
  if x < 0 ∨ n ≤ x ∨ s.1.getLsbD x.toNat = true then none else some (s.1 ||| bitW x.toNat, upd s.2 x.toNat (w64 (s.2 x.toNat + 1)))
def stepM (n : Int) (s : W64 × (Nat → Int)) (st : List Int) : Option (W64 × (Nat → Int)) := if st = [] then none else st.foldlM (chk n) s
def procM (n : Int) (u : Nat → Int) (p : List (List Int)) : Option (Nat → Int) := if p = [] then none else (p.foldlM (stepM n) (0, u)).map (·.2)
def mayG (n : Int) (c : Procs) : Bool := decide (0 ≤ n) && decide (n ≤ 64) && decide (1 ≤ c.length) && decide (c.length ≤ 16)
def mayU (n : Int) (c : Procs) : Option (Nat → Int) := c.foldlM (procM n) fun _ => 0
def evenU : Option (Nat → Int) → Bool
  | none => false
  | some u => !((List.range 64).map u).any oddUse
def nmayB (n : Int) (c : Procs) : Bool := mayG n c && evenU (mayU n c)
theorem foldM_at {α β : Type} {f : β → α → Option β} {l : List α} {i : Nat} {x : α} (h : l[i]? = some x) (s : β) : (l.drop i).foldlM f s = (f s x).bind fun s' => (l.drop (i + 1)).foldlM f s' := by
  rw [drop_at h, List.foldlM_cons]; rfl
theorem foldM_end {α β : Type} {f : β → α → Option β} {l : List α} (s : β) : (l.drop l.length).foldlM f s = some s := by
  rw [List.drop_length, List.foldlM_nil]; rfl
theorem none_may {n : Int} {c : Procs} (h : mayU n c = none) : nmayB n c = false := by rw [nmayB, h]; simp [evenU]
theorem nmay_p (n : Int) (c : Procs) (hs : ShortN c) : Pure Tryd.prog gs0 19 [netA n c] (AB (nmayB n c)) := by
  have hcl : ((c.map procA).length : Int) = c.length := by rw [List.length_map]
  refine Pure.of (S := tt) (fn := Tryd.f19) (n := 86) tt_ok Tryd.func19 rfl rfl rfl rfl fun w0 h0 F hgs => ?_
  (repeat first|refine A.s rfl ?_|refine A.r rfl rfl ?_|refine A.b rfl fun bx=>?_)
  ((fail_if_success (refine A.lit? rfl ?_)); refine A.gS rfl (fun hc => ?_) (fun hc => ?_))
  · simp at hc; (repeat refine A.s rfl ?_); refine A.ret1 (Λ' := []) rfl rfl rfl (List.nil_sublist _) ⟨?_, rfl⟩; refine Sb.eq (ab_eq ?_); rw [nmayB, mayG, show decide (0 ≤ n) = false by simp; omega]; rfl
  simp at hc
  have g1 := hc
  (repeat first|refine A.s rfl ?_|refine A.r rfl rfl ?_)
  ((fail_if_success (refine A.lit? rfl ?_)); refine A.gS rfl (fun hc => ?_) (fun hc => ?_))
  · simp at hc; (repeat refine A.s rfl ?_); refine A.ret1 (Λ' := []) rfl rfl rfl (List.nil_sublist _) ⟨?_, rfl⟩; refine Sb.eq (ab_eq ?_); rw [nmayB, mayG, show decide (n ≤ 64) = false by simp; omega]; simp
  simp at hc
  have g2 := hc
  (repeat first|refine A.s rfl ?_|refine A.r rfl rfl ?_)
  ((fail_if_success (refine A.lit? rfl ?_)); refine A.gS rfl (fun hc => ?_) (fun hc => ?_))
  · simp at hc; (repeat refine A.s rfl ?_); refine A.ret1 (Λ' := []) rfl rfl rfl (List.nil_sublist _) ⟨?_, rfl⟩; refine Sb.eq (ab_eq ?_); rw [nmayB, mayG, show decide (1 ≤ c.length) = false from decide_eq_false (by omega)]; simp
  simp at hc
  have g3 : 1 ≤ c.length := by omega
  (repeat first|refine A.s rfl ?_|refine A.r rfl rfl ?_)
  refine A.cond rfl (fun hc => ?_) (fun hc => ?_)
  · simp at hc; (repeat refine A.s rfl ?_); refine A.ret1 (Λ' := []) rfl rfl rfl (List.nil_sublist _) ⟨?_, rfl⟩; refine Sb.eq (ab_eq ?_); rw [nmayB, mayG, show decide (c.length ≤ 16) = false by simp; omega]; simp
  simp at hc
  have g4 := hc
  have hg : mayG n c = true := by simp only [mayG, Bool.and_eq_true, decide_eq_true_eq]; omega
  (repeat refine A.s rfl ?_)
  refine A.b rfl fun b1 => ?_
  refine A.headEq (.ag (intL fun _ => 0)) (by kernel_rfl) ?_
  (repeat first|refine A.s rfl ?_|refine A.r rfl rfl ?_)
  refine A.valE 33 rfl (x' := AI (c.length : Nat)) (ai_eq (by rw [List.length_map])) ?_
  refine A.keep [1, 3, 32, 33, 34] rfl ?_
  refine A.loopP (ι := Nat × (Nat → Int)) (fun p => (⟨[(1, .v (.pointer (some ⟨_, 0, none⟩))), (3, .v (.pointer (some ⟨b1, 0, none⟩))), (32, procsA c), (33, AI (c.length : Nat)), (34, AI (p.1 : Nat))], []⟩, [.box b1 (.ag (intL p.2)), .box _ (.ag [AI n, procsA c])]))
    (fun p => p.1 ≤ c.length ∧ (c.drop p.1).foldlM (procM n) p.2 = mayU n c) (fun p => c.length - p.1) (0, fun _ => 0) ⟨by omega, rfl⟩ rfl fun q hi ih => ?_
  obtain ⟨i, u⟩ := q
  simp only at hi ih ⊢
  (repeat refine A.s rfl ?_)
  refine A.cond rfl (fun hc => ?_) (fun hc => ?_)
  · simp at hc
    refine Exists.elim (at_exN (l := c) (i := i) hc) fun p hp => ?_
    have hpm : p ∈ c := List.mem_of_getElem? hp
    have hpl : ((p.map rowI).length : Int) = p.length := by rw [List.length_map]
    have hpb := hs.steps p hpm
    have h1 := hi.2
    rw [foldM_at hp] at h1
    (repeat refine A.s rfl ?_)
    refine A.x rfl (by omega) (map_at hp) rfl rfl ?_
    (repeat refine A.s rfl ?_)
    refine A.cond rfl (fun hc => ?_) (fun hc => ?_)
    · simp at hc
      have hno : mayU n c = none := by rw [← h1, procM, if_pos hc]; rfl
      ((repeat refine A.s rfl ?_); refine A.ret1 (Λ' := []) rfl rfl rfl (List.nil_sublist _) ⟨?_, rfl⟩; exact Sb.eq (ab_eq (none_may hno).symm))
    simp at hc
    rw [procM, if_neg hc] at h1
    (repeat refine A.s rfl ?_)
    refine A.valE 6 rfl (x' := U64 0) rfl ?_
    refine A.valE 42 rfl (x' := AI (p.length : Nat)) (ai_eq (by rw [List.length_map])) ?_
    refine A.keep [1, 3, 6, 32, 33, 34, 41, 42, 43] rfl ?_
    refine A.loopP (ι := Nat × (W64 × (Nat → Int))) (fun q => (⟨[(1, .v (.pointer (some ⟨_, 0, none⟩))), (3, .v (.pointer (some ⟨b1, 0, none⟩))), (6, U64 q.2.1), (32, procsA c), (33, AI (c.length : Nat)), (34, AI (i : Nat)), (41, procA p), (42, AI (p.length : Nat)), (43, AI (q.1 : Nat))], []⟩, [.box b1 (.ag (intL q.2.2)), .box _ (.ag [AI n, procsA c])]))
      (fun q => q.1 ≤ p.length ∧ (p.drop q.1).foldlM (stepM n) q.2 = p.foldlM (stepM n) (0, u)) (fun q => p.length - q.1) (0, (0, u)) ⟨by omega, rfl⟩ rfl fun q hj jh => ?_
    obtain ⟨j, met, u1⟩ := q
    simp only at hj jh ⊢
    (repeat refine A.s rfl ?_)
    refine A.cond rfl (fun hc => ?_) (fun hc => ?_)
    · simp at hc
      refine Exists.elim (at_exN (l := p) (i := j) hc) fun st hst => ?_
      have hsm : st ∈ p := List.mem_of_getElem? hst
      have hsb := hs.uses p hpm st hsm
      have h2 := hj.2
      rw [foldM_at hst] at h2
      (repeat refine A.s rfl ?_)
      refine A.x rfl (by omega) (map_at hst) rfl rfl ?_
      (repeat refine A.s rfl ?_)
      refine A.cond rfl (fun hc => ?_) (fun hc => ?_)
      · simp at hc
        have hno : mayU n c = none := by rw [← h1, ← h2, stepM, if_pos hc]; rfl
        ((repeat refine A.s rfl ?_); refine A.ret1 (Λ' := []) rfl rfl rfl (List.nil_sublist _) ⟨?_, rfl⟩; exact Sb.eq (ab_eq (none_may hno).symm))
      simp at hc
      rw [stepM, if_neg hc] at h2
      (repeat refine A.s rfl ?_)
      refine A.valE 51 rfl (x' := AI (st.length : Nat)) (ai_eq (by rw [List.length_map])) ?_
      refine A.keep [1, 3, 6, 32, 33, 34, 41, 42, 43, 50, 51, 52] rfl ?_
      refine A.loopP (ι := Nat × (W64 × (Nat → Int))) (fun q => (⟨[(1, .v (.pointer (some ⟨_, 0, none⟩))), (3, .v (.pointer (some ⟨b1, 0, none⟩))), (6, U64 q.2.1), (32, procsA c), (33, AI (c.length : Nat)), (34, AI (i : Nat)), (41, procA p), (42, AI (p.length : Nat)), (43, AI (j : Nat)), (50, rowI st), (51, AI (st.length : Nat)), (52, AI (q.1 : Nat))], []⟩, [.box b1 (.ag (intL q.2.2)), .box _ (.ag [AI n, procsA c])]))
        (fun q => q.1 ≤ st.length ∧ (st.drop q.1).foldlM (chk n) q.2 = st.foldlM (chk n) (met, u1)) (fun q => st.length - q.1) (0, (met, u1)) ⟨by omega, rfl⟩ rfl fun q hk kh => ?_
      obtain ⟨k1, met2, u2⟩ := q
      simp only at hk kh ⊢
      (repeat refine A.s rfl ?_)
      refine A.cond rfl (fun hc => ?_) (fun hc => ?_)
      · simp at hc
        refine Exists.elim (at_exN (l := st) (i := k1) hc) fun x0 hx0 => ?_
        have h3 := hk.2
        rw [foldM_at hx0] at h3
        (repeat refine A.s rfl ?_)
        refine A.x rfl (by omega) (map_at hx0) rfl rfl ?_
        (repeat refine A.s rfl ?_)
        ((fail_if_success (refine A.lit? rfl ?_)); refine A.gS rfl (fun hc => ?_) (fun hc => ?_))
        · simp at hc
          have hno : mayU n c = none := by rw [← h1, ← h2, ← h3, chk, if_pos (.inl hc)]; rfl
          ((repeat refine A.s rfl ?_); refine A.ret1 (Λ' := []) rfl rfl rfl (List.nil_sublist _) ⟨?_, rfl⟩; exact Sb.eq (ab_eq (none_may hno).symm))
        simp at hc
        have x1 := hc
        (repeat first|refine A.s rfl ?_|refine A.r rfl rfl ?_)
        ((fail_if_success (refine A.lit? rfl ?_)); refine A.gS rfl (fun hc => ?_) (fun hc => ?_))
        · simp at hc
          have hno : mayU n c = none := by rw [← h1, ← h2, ← h3, chk, if_pos (.inr (.inl hc))]; rfl
          ((repeat refine A.s rfl ?_); refine A.ret1 (Λ' := []) rfl rfl rfl (List.nil_sublist _) ⟨?_, rfl⟩; exact Sb.eq (ab_eq (none_may hno).symm))
        simp at hc
        refine Exists.elim (nat_of (x := x0) ⟨x1, by omega⟩) fun x hx1 => ?_
        obtain ⟨hx64, rfl⟩ := hx1
        (repeat refine A.s rfl ?_)
        refine A.shift rfl rfl rfl rfl rfl rfl (by omega) ?_
        refine A.valE 67 rfl (x' := U64 (met2 >>> x)) (u64_eq (ushr _ _ hx64)) ?_
        (repeat refine A.s rfl ?_)
        refine A.valE 70 rfl (x' := AB (met2.getLsbD x)) (ab_eq (bit1 met2 x)) ?_
        refine A.cond rfl (fun hc => ?_) (fun hc => ?_)
        · have hm := hc
          have hno : mayU n c = none := by rw [← h1, ← h2, ← h3, chk, if_pos (.inr (.inr (by simpa using hm)))]; rfl
          ((repeat refine A.s rfl ?_); refine A.ret1 (Λ' := []) rfl rfl rfl (List.nil_sublist _) ⟨?_, rfl⟩; exact Sb.eq (ab_eq (none_may hno).symm))
        · have hm := hc
          rw [chk, if_neg (by simp [hm]; omega)] at h3
          (repeat refine A.s rfl ?_)
          refine A.shift rfl rfl rfl rfl rfl rfl (by omega) ?_
          (repeat refine A.s rfl ?_)
          refine A.valE 6 rfl (x' := U64 (met2 ||| bitW x)) (u64_eq (by rw [ushl x hx64, uor])) ?_
          refine A.xa rfl (p := x) (by omega) (by omega) (off1 x) rfl ?_
          refine A.ra rfl (range_at _ hx64) rfl ?_
          (repeat refine A.s rfl ?_)
          refine A.xa rfl (p := x) (by omega) (by omega) (off1 x) rfl ?_
          refine A.wa rfl rfl (by simp; omega) (range_set AI _ x (w64 (u2 x + 1))) ?_
          (repeat refine A.s rfl ?_)
          refine A.valE 52 rfl (x' := AI ((k1 + 1 : Nat) : Int)) (inc_eq k1 (by omega)) ?_
          refine A.sub (by repeat (first | exact trivial | refine ⟨⟨_, rfl, .refl⟩, ?_⟩)) (kh (k1 + 1, (met2 ||| bitW x, upd u2 x (w64 (u2 x + 1)))) ⟨by omega, h3⟩ (by simp only; omega))
      · simp at hc
        have hkl : k1 = st.length := by omega
        have h3 := hk.2
        rw [hkl, foldM_end] at h3
        rw [← h3] at h2
        (repeat refine A.s rfl ?_)
        refine A.valE 43 rfl (x' := AI ((j + 1 : Nat) : Int)) (inc_eq j (by omega)) ?_
        refine A.sub (by repeat (first | exact trivial | refine ⟨⟨_, rfl, .refl⟩, ?_⟩)) (jh (j + 1, (met2, u2)) ⟨by omega, h2⟩ (by simp only; omega))
    · simp at hc
      have hjl : j = p.length := by omega
      have h2 := hj.2
      rw [hjl, foldM_end] at h2
      rw [← h2] at h1
      (repeat refine A.s rfl ?_)
      refine A.valE 34 rfl (x' := AI ((i + 1 : Nat) : Int)) (inc_eq i (by omega)) ?_
      refine A.sub (by repeat (first | exact trivial | refine ⟨⟨_, rfl, .refl⟩, ?_⟩)) (ih (i + 1, u1) ⟨by omega, h1⟩ (by simp only; omega))
  · simp at hc
    have hil : i = c.length := by omega
    have h1 := hi.2
    rw [hil, foldM_end] at h1
    (repeat refine A.s rfl ?_)
    refine A.freeze 3 (sz := 64) rfl rfl (by rw [lenN_eq, arr_len]) ?_
    refine A.sa rfl (arr_len _) (int_one _) rfl ?_
    refine A.valE 83 rfl (x' := rowI ((List.range 64).map u)) (by show AV.sl 1 ((List.range 64).map _) none = AV.sl 1 (((List.range 64).map u).map AI) none; rw [List.map_map]; rfl) ?_
    refine A.c rfl (hasI_p _ [] _ nmay1_p ((List.range 64).map u) (by simp)) .refl ?_
    (repeat refine A.s rfl ?_); refine A.ret1 (Λ' := []) rfl rfl rfl (List.nil_sublist _) ⟨?_, rfl⟩; refine Sb.eq (ab_eq ?_); rw [nmayB, hg, ← h1]; rfl
end Go.Proofs.YtgmeahcclogfmaaDoor
/-!
  Chapter 23: the ends of channels in a kernel; what the program's Class gives.
-/
namespace Go.Proofs.YtgmeahcclogfmaaDoor
open Go Go.Tp
set_option linter.unusedVariables false
set_option linter.unusedSimpArgs false
set_option maxRecDepth 100000
set_option maxHeartbeats 4000000
/-! ### spare places of many slices -/
theorem hollow1 {K : AC} {k : List It} {E : AEnv} {Λ : List AEnt} (sz : Nat) (next : A K k E (.tail sz (.slice none 0 0) :: Λ)) : A K k E Λ :=
  A.fullTail sz 0 none (fun _ => rfl) (fun _ h => by cases h) next
theorem hollows {K : AC} {k : List It} {E : AEnv} {sz : Nat} : ∀ (n : Nat) {Λ : List AEnt}, A K k E (Λ ++ List.replicate n (.tail sz (.slice none 0 0))) → A K k E Λ
  | 0, _, h => by simpa using h
  | n + 1, Λ, h => hollow1 sz (hollows n (A.perm (by
      rw [List.replicate_succ]
      exact List.perm_middle.symm) h))
structure EN where
  b : Int
  c : Int
  out : Bool
  item : Int
def endOf (i : Nat) (x : PR) : EN := ⟨i, x.c, x.kind == 6, x.item⟩
abbrev userA (e : EN) : AV := .ag [AI e.b, AB e.out, AU8 e.item]
def onC (E : List EN) (c : Nat) : List EN := E.filter fun e => e.c == (c : Int)
def usrF (E : List EN) (z : Nat → Value) (c : Nat) : AV := .sl 3 ((onC E c).map userA) (some (z c))
def usrL (E : List EN) (z : Nat → Value) : List AV := arrL (usrF E z)
def tailsL (z : Nat → Value) : List AEnt := (List.range 64).map fun c => .tail 3 (z c)
def tailsX (z : Nat → Value) (c : Nat) : List AEnt := ((List.range 64).erase c).map fun c => .tail 3 (z c)
theorem tailsX_upd (z : Nat → Value) (c : Nat) (z' : Value) : tailsX (upd z c z') c = tailsX z c := by
  refine List.map_congr_left fun x hx => ?_
  have : x ≠ c := fun e => by
    subst e
    exact (List.nodup_range.mem_erase_iff.1 hx).1 rfl
  simp [upd, this]
theorem tails_out (z : Nat → Value) {c : Nat} (hc : c < 64) (l : List AEnt) : (l ++ tailsL z).Perm (.tail 3 (z c) :: (l ++ tailsX z c)) := by
  have h1 : (tailsL z).Perm (.tail 3 (z c) :: tailsX z c) := (List.perm_cons_erase (List.mem_range.2 hc)).map _
  exact (h1.append_left l).trans List.perm_middle
theorem tails_in (z : Nat → Value) {c : Nat} (hc : c < 64) (z' : Value) (l : List AEnt) : (.tail 3 z' :: (l ++ tailsX z c)).Perm (l ++ tailsL (upd z c z')) := by
  have := (tails_out (upd z c z') hc l).symm
  rwa [tailsX_upd, show upd z c z' c = z' by simp [upd]] at this
theorem onC_add (E : List EN) (e : EN) (c : Nat) : onC (E ++ [e]) c = if e.c = c then onC E c ++ [e] else onC E c := by
  unfold onC
  rw [List.filter_append]
  by_cases h : e.c = c
  · rw [if_pos h]; simp [h]
  · rw [if_neg h]; simp [h]
theorem usr_set (E : List EN) (z : Nat → Value) (e : EN) (c : Nat) (hc : e.c = c) (z' : Value) : (usrL E z).set c (.sl 3 ((onC E c).map userA ++ [userA e]) (some z')) = usrL (E ++ [e]) (upd z c z') := by
  have h1 : AV.sl 3 ((onC E c).map userA ++ [userA e]) (some z') = usrF (E ++ [e]) (upd z c z') c := by
    simp only [usrF, onC_add, if_pos hc, List.map_append, List.map_cons, List.map_nil, upd, if_true]
  rw [h1]
  apply List.ext_getElem?
  intro i
  rw [List.getElem?_set]
  by_cases h : i < 64
  · by_cases hx : c = i
    · subst hx
      rw [if_pos rfl, if_pos (by rw [usrL, arr_len]; exact h), usrL, range_at _ h]
    · rw [if_neg hx, usrL, usrL, range_at _ h, range_at _ h]
      have : ¬ e.c = i := by omega
      have hx' : ¬ i = c := fun h => hx h.symm
      simp only [usrF, onC_add, if_neg this, upd, if_neg hx']
  · rw [List.getElem?_eq_none (l := usrL (E ++ [e]) _) (by rw [usrL, arr_len]; omega), List.getElem?_eq_none (by rw [usrL, arr_len]; omega)]
    have : ¬ c < (usrL E z).length ∨ c ≠ i := by rw [usrL, arr_len]; omega
    split
    · split
      · rename_i h2 h3; rw [usrL, arr_len] at h3; omega
      · rfl
    · rfl
theorem usr_nil : usrL [] (fun _ => .slice none 0 0) = List.replicate 64 (.sl 3 [] (some (.slice none 0 0))) := by
  show (List.range 64).map (fun _ => AV.sl 3 [] (some (.slice none 0 0))) = _
  rw [List.map_const', List.length_range]
theorem tails_nil : tailsL (fun _ => .slice none 0 0) = List.replicate 64 (.tail 3 (.slice none 0 0)) := by
  show (List.range 64).map (fun _ => _) = _
  rw [List.map_const', List.length_range]
theorem usr_from {h : GH} {y : Value} (r : Rp h (.ag (List.replicate 64 (.v (.slice none 0 0)))) y) : Rp h (.ag (usrL [] fun _ => .slice none 0 0)) y := by
  rw [usr_nil]
  have key : ∀ n vs, RpC h (List.replicate n (.v (.slice none 0 0))) vs → RpC h (List.replicate n (.sl 3 [] (some (.slice none 0 0)))) vs := by
    intro n
    induction n with
    | zero => intro vs r; exact r
    | succ n ih =>
      intro vs r
      rw [List.replicate_succ] at r ⊢
      exact RpC_imp (fun y q => nil_own 3 q) ih vs r
  exact Rp_ag_imp (key 64) y r
/-! ### the model -/
def endsP (k : KN) (i : Nat) (p : PR) : List EN := ((cycP k p).map (·.map (endOf i))).flatten
def restE (k : KN) : Nat → List PR → List EN
  | _, [] => []
  | i, p :: r => endsP k i p ++ restE k (i + 1) r
def procC (k : KN) (p : PR) : List (List Int) := (cycP k p).map (·.map (·.c))
def netC (k : KN) (q : PR) : Procs := q.l.map (procC k)
def fitE (x y : EN) : Bool := x.b != y.b && x.out != y.out && x.item == y.item
def pairOk : List EN → Bool
  | [] => true
  | [x, y] => fitE x y
  | _ => false
def pairsB (E : List EN) : Bool := (List.range 64).all fun c => pairOk (onC E c)
def classB (k : KN) (q : PR) : Bool := pairsB (restE k 0 q.l) && nmayB k.chans.length (netC k q)
abbrev classR (n : Int) (c : Procs) (b : Bool) : AV := .tp [if b then netA n c else netA 0 [], AB b]
/-! ### bounds -/
theorem good_root {k : KN} (hw : WfN k) (hm : mayK k = true) : Good k k.root ∧ k.chans.length ≤ 64 := by
  simp only [mayK, lensK, Bool.and_eq_true, decide_eq_true_eq] at hm
  exact ⟨⟨hw.root, false, hm.2.1⟩, by omega⟩
theorem Good.ten {k : KN} {p : PR} (g : Good k p) (h : p.kind = 10) : p.l.length ≤ 16 := by
  have hk := g.kind
  unfold kindB at hk
  rw [if_neg (by omega), if_neg (by omega), if_neg (by omega), if_neg (by omega), if_neg (by omega), if_neg (by omega), if_neg (by omega), if_neg (by omega), if_pos h] at hk
  simp only [shapeR, inB, Bool.and_eq_true, decide_eq_true_eq] at hk
  omega
theorem single_16 {k : KN} {s : PR} (g : Good k s) : (singleP s).length ≤ 16 := by
  unfold singleP
  by_cases h : (stepL s).any badQ = true
  · rw [if_pos h]; simp
  · rw [if_neg h, stepL]
    by_cases h10 : s.kind = 10
    · rw [if_pos h10]; exact g.ten h10
    · rw [if_neg h10]; simp
theorem steps_good {k : KN} {q : PR} (g : Good k q) : (∀ s, s ∈ stepsW q → Good k s) ∧ (stepsW q).length ≤ 2048 := by
  unfold stepsW
  split
  · rename_i y r hy
    have gy : Good k y := g.l (by rw [hy]; exact List.mem_cons_self ..)
    split
    · exact ⟨fun s hs => gy.l hs, gy.short⟩
    · exact ⟨fun s hs => g.l hs, g.short⟩
  · exact ⟨fun s hs => absurd hs List.not_mem_nil, Nat.zero_le _⟩
theorem cyc_mem {k : KN} {p : PR} (g : Good k p) {s : List PR} (hs : s ∈ cycP k p) : ∃ x, Good k x ∧ s = singleP x := by
  unfold cycP cycW at hs
  split at hs
  · obtain ⟨x, hx, rfl⟩ := List.mem_map.1 hs
    exact ⟨x, (steps_good g.last).1 x hx, rfl⟩
  · cases hs
theorem cycl_len {k : KN} {p : PR} (g : Good k p) : (cycP k p).length ≤ 2048 := by
  unfold cycP cycW
  split
  · rw [List.length_map]; exact (steps_good g.last).2
  · simp
theorem cycl_one {k : KN} {p : PR} (g : Good k p) {s : List PR} (hs : s ∈ cycP k p) : s.length ≤ 16 ∧ ∀ x, x ∈ s → Good k x ∧ 0 ≤ x.c ∧ x.c < k.chans.length := by
  obtain ⟨y, gy, rfl⟩ := cyc_mem g hs
  refine ⟨single_16 gy, fun x hx => ?_⟩
  obtain ⟨h1, h2⟩ := single_mem hx
  have gx := stepL_good gy h1
  obtain ⟨h3, h4⟩ := badq_no h2
  refine ⟨gx, by omega, ?_⟩
  have hk := gx.kind
  rcases h3 with h3 | h3
  · obtain ⟨t, _, ht⟩ := kind_5 hk h3
    exact (chan_lt (input_place ht).1).2
  · obtain ⟨t, _, ht⟩ := kind_6 hk h3
    exact (chan_lt ht).2
theorem flat_len {α : Type} {n : Nat} : ∀ {l : List (List α)}, (∀ x, x ∈ l → x.length ≤ n) → l.flatten.length ≤ l.length * n
  | [], _ => by simp
  | x :: l, h => by
    have h1 := h x (List.mem_cons_self ..)
    have h2 := flat_len (l := l) fun y hy => h y (List.mem_cons_of_mem _ hy)
    rw [List.flatten_cons, List.length_append, List.length_cons, Nat.succ_mul]; omega
theorem ends_len {k : KN} {p : PR} (g : Good k p) (i : Nat) : (endsP k i p).length ≤ 32768 := by
  have h1 := flat_len (n := 16) (l := (cycP k p).map (·.map (endOf i))) fun x hx => by
    obtain ⟨s, hs, rfl⟩ := List.mem_map.1 hx
    rw [List.length_map]; exact (cycl_one g hs).1
  have h2 := cycl_len g
  rw [List.length_map] at h1
  unfold endsP; omega
theorem rest_len {k : KN} : ∀ {l : List PR} (i : Nat), (∀ p, p ∈ l → Good k p) → (restE k i l).length ≤ l.length * 32768
  | [], _, _ => by simp [restE]
  | p :: l, i, h => by
    have h1 := ends_len (h p (List.mem_cons_self ..)) i
    have h2 := rest_len (l := l) (i + 1) fun y hy => h y (List.mem_cons_of_mem _ hy)
    rw [restE, List.length_append, List.length_cons, Nat.succ_mul]; omega
theorem onC_le (E : List EN) (c : Nat) : (onC E c).length ≤ E.length := List.length_filter_le ..
theorem short_net {k : KN} {q : PR} (g : Good k q) : ShortN (netC k q) where
  procs := by rw [netC, List.length_map]; have := g.len; omega
  steps := fun p hp => by
    obtain ⟨y, hy, rfl⟩ := List.mem_map.1 hp
    rw [procC, List.length_map]; have := cycl_len (g.l hy); omega
  uses := fun p hp s hs => by
    obtain ⟨y, hy, rfl⟩ := List.mem_map.1 hp
    obtain ⟨t, ht, rfl⟩ := List.mem_map.1 hs
    rw [List.length_map]; have := (cycl_one (g.l hy) ht).1; omega
end Go.Proofs.YtgmeahcclogfmaaDoor
/-!
  Chapter 23: the law's own functions on networks: higher, end, built.
-/
namespace Go.Proofs.YtgmeahcclogfmaaDoor
open Go Go.Tp
set_option linter.unusedVariables false
set_option linter.unusedSimpArgs false
set_option maxRecDepth 100000
set_option maxHeartbeats 4000000
def up2 (s : List Int) : List Int := s.map (· + 2)
def upP (p : List (List Int)) : List (List Int) := p.map up2
def upC (c : Procs) : Procs := c.map upP
def endR (c : Int) (out : Bool) : PR := if out = true then ⟨6, c, 0, 1, [], [⟨2, 0, 0, 0, 0, []⟩], [], []⟩ else ⟨5, c, 0, 1, [⟨0, []⟩], [], [], []⟩
def endsS (seen : List Int) : List Int → List PR
  | [] => []
  | x :: r => endR (x + 2) (!seen.contains x) :: endsS (seen ++ [x]) r
def parR (l : List PR) : PR := match l with
  | [x] => x
  | l => ⟨10, 0, 0, 0, [], [], [], l⟩
def stepsS (seen : List Int) : List (List Int) → List PR
  | [] => []
  | s :: r => parR (endsS seen s) :: stepsS (seen ++ s) r
def whileR (l : List PR) : PR := ⟨13, 0, 0, 0, [], [⟨1, 0, 0, 1, 0, []⟩], [], [⟨9, 0, 0, 0, [], [], [], l⟩]⟩
def procsS (seen : List Int) : Procs → List PR
  | [] => []
  | p :: r => whileR (stepsS seen p) :: procsS (seen ++ p.flatten) r
def rootB (c : Procs) : PR := ⟨10, 0, 0, 0, [], [], [], procsS [] c⟩
def builtK (n : Nat) (c : Procs) : KN := ⟨[⟨1, 0⟩], 1 :: 2 :: List.replicate n 0, rootB c, []⟩
theorem endsS_snoc : ∀ (seen l : List Int) (x : Int), endsS seen (l ++ [x]) = endsS seen l ++ [endR (x + 2) (!(seen ++ l).contains x)]
  | seen, [], x => by simp [endsS]
  | seen, y :: l, x => by
    rw [List.cons_append, endsS, endsS, endsS_snoc (seen ++ [y]) l x]
    simp
theorem stepsS_snoc : ∀ (seen : List Int) (l : List (List Int)) (s : List Int), stepsS seen (l ++ [s]) = stepsS seen l ++ [parR (endsS (seen ++ l.flatten) s)]
  | seen, [], s => by simp [stepsS]
  | seen, y :: l, s => by
    rw [List.cons_append, stepsS, stepsS, stepsS_snoc (seen ++ y) l s]
    simp
theorem procsS_snoc : ∀ (seen : List Int) (l : Procs) (p : List (List Int)), procsS seen (l ++ [p]) = procsS seen l ++ [whileR (stepsS (seen ++ l.flatten.flatten) p)]
  | seen, [], p => by simp [procsS]
  | seen, y :: l, p => by
    rw [List.cons_append, procsS, procsS, procsS_snoc (seen ++ y.flatten) l p]
    simp
theorem endsS_len : ∀ (seen l : List Int), (endsS seen l).length = l.length
  | _, [] => rfl
  | seen, x :: l => by rw [endsS, List.length_cons, endsS_len, List.length_cons]
theorem stepsS_len : ∀ (seen : List Int) (l : List (List Int)), (stepsS seen l).length = l.length
  | _, [] => rfl
  | seen, x :: l => by rw [stepsS, List.length_cons, stepsS_len, List.length_cons]
theorem procsS_len : ∀ (seen : List Int) (l : Procs), (procsS seen l).length = l.length
  | _, [] => rfl
  | seen, x :: l => by rw [procsS, List.length_cons, procsS_len, List.length_cons]
theorem encRl_app (a b : List PR) : encRl (a ++ b) = encRl a ++ encRl b := by rw [encRl_map, encRl_map, encRl_map, List.map_append]
theorem kes_one (k n : Int) : kesA [⟨k, 0, 0, n, 0, []⟩] = .sl 6 [.ag [AU8 k, AU8 0, AU8 0, AI32 n, AI 0, .sl 6 [] none]] none := by
  show AV.sl 6 (encKl _) none = _
  rw [encKl, encKl, encK, encKl]
theorem gs_nil : gsA [] = .sl 18 [] none := by
  show AV.sl 18 (encGl []) none = _
  rw [encGl]
theorem rs_nil : rsA [] = .sl 8 [] none := by
  show AV.sl 8 (encRl []) none = _
  rw [encRl]
theorem kes_nil : kesA [] = .sl 6 [] none := by
  show AV.sl 6 (encKl []) none = _
  rw [encKl]
theorem pls_nil : plsA [] = .sl 2 [] none := rfl
theorem sb_seq (k : Int) (l : List PR) (o : Option Value) : Sb (.ag [AU8 k, AI 0, AI 0, AU8 0, .v (.slice none 0 0), .v (.slice none 0 0), .v (.slice none 0 0), .sl 8 (encRl l) o]) (cellsR ⟨k, 0, 0, 0, [], [], [], l⟩) := by
  show Sb _ (.ag [AU8 k, AI 0, AI 0, AU8 0, plsA [], kesA [], gsA [], rsA l])
  rw [pls_nil, kes_nil, gs_nil]
  exact .ag (.cons .refl (.cons .refl (.cons .refl (.cons .refl (.cons .nil (.cons .nil (.cons .nil (.cons .own1 .refl))))))))
theorem end_p (c : Int) (out : Bool) : Pure Tryd.prog gs0 20 [AI c, AB out] (cellsR (endR c out)) := by
  cases out with
  | true =>
    rw [endR, if_pos rfl]
    refine Exists.elim (show ∃ R, R = cellsR ⟨6, c, 0, 1, [], [⟨2, 0, 0, 0, 0, []⟩], [], []⟩ from ⟨_, rfl⟩) fun R hR => ?_
    rw [← hR]
    have hR : R = .ag [AU8 6, AI c, AI 0, AU8 1, plsA [], kesA [⟨2, 0, 0, 0, 0, []⟩], gsA [], rsA []] := hR
    rw [pls_nil, kes_one, gs_nil, rs_nil] at hR
    refine Pure.of (S := tt) (fn := Tryd.f20) (n := 14) tt_ok Tryd.func20 rfl rfl rfl rfl fun w0 h0 F hgs => ?_
    (repeat first|refine A.s rfl ?_|refine A.w rfl rfl ?_|refine A.b rfl fun bx=>?_|refine A.t rfl fun bl=>?_)
    refine A.retC (Λ' := []) rfl rfl rfl rfl rfl (List.nil_sublist _) ⟨?_, rfl⟩
    rw [hR]
    exact .ag (.cons .refl (.cons .refl (.cons .refl (.cons .refl (.cons .nil (.cons (.own (.cons (.ag (.cons .refl (.cons .refl (.cons .refl (.cons .refl (.cons .refl (.cons .nil .refl))))))) .refl)) (.cons .nil (.cons .nil .refl))))))))
  | false =>
    rw [endR, if_neg (by decide)]
    refine Exists.elim (show ∃ R, R = cellsR ⟨5, c, 0, 1, [⟨0, []⟩], [], [], []⟩ from ⟨_, rfl⟩) fun R hR => ?_
    rw [← hR]
    have hR : R = .ag [AU8 5, AI c, AI 0, AU8 1, .sl 2 [.ag [AI 0, kesA []]] none, kesA [], gsA [], rsA []] := hR
    rw [kes_nil, gs_nil, rs_nil] at hR
    refine Pure.of (S := tt) (fn := Tryd.f20) (n := 14) tt_ok Tryd.func20 rfl rfl rfl rfl fun w0 h0 F hgs => ?_
    (repeat first|refine A.s rfl ?_|refine A.w rfl rfl ?_|refine A.b rfl fun bx=>?_|refine A.t rfl fun bl=>?_)
    refine A.retC (Λ' := []) rfl rfl rfl rfl rfl (List.nil_sublist _) ⟨?_, rfl⟩
    rw [hR]
    exact .ag (.cons .refl (.cons .refl (.cons .refl (.cons .refl (.cons (.own (.cons (.ag (.cons .refl (.cons .nil .refl))) .refl)) (.cons .nil (.cons .nil (.cons .nil .refl))))))))
/-! ### higher -/
theorem higher_p (n : Int) (c : Procs) (hn : 0 ≤ n ∧ n ≤ 62) (hB : InB c) (hS : Small c) : Pure Tryd.prog gs0 10 [netA n c] (netA (n + 2) (upC c)) := by
  have h20 := hS.procs
  have h70 := hS.steps
  have hup : (upC c).map procA = c.map fun p => procA (upP p) := by rw [upC, List.map_map]; rfl
  have hcl : ((c.map procA).length : Int) = c.length := by rw [List.length_map]
  refine Pure.of (S := tt) (fn := Tryd.f10) (n := 69) tt_ok Tryd.func10 rfl rfl rfl rfl fun w0 h0 F hgs => ?_
  (repeat refine A.s rfl ?_)
  refine A.b rfl fun b1 => ?_
  refine A.b rfl fun b2 => ?_
  refine A.freeze 1 (sz := 2) rfl rfl rfl ?_
  (repeat refine A.s rfl ?_)
  refine A.b rfl fun b3 => ?_
  (repeat first|refine A.s rfl ?_|refine A.w rfl rfl ?_)
  refine A.boxAs (b := b3) (x' := .ag [AI (n + 2), .sl 1 [] (some (.slice none 0 0))]) (.refl _) (fun h y r => Rp_ag_imp (RpC_imp (fun _ r => (by rwa [show IntKind.i64.wrap (n + 2) = n + 2 from wr64 _ (by omega)] at r)) (RpC_imp (fun _ r => nil_own 1 r) fun _ r => r)) y r) ?_
  refine hollow1 ty27.size ?_
  refine A.keep [1, 2, 3, 4] rfl ?_
  refine A.loopP (ι := Nat × Value) (fun s => (⟨[(1, .pe 2 (netA n c)), (2, .v (.pointer (some ⟨b2, 0, none⟩))), (3, .v (.pointer (some ⟨b3, 0, none⟩))), (4, AI (s.1 : Nat))], []⟩, .tail ty27.size s.2 :: .box b3 (.ag [AI (n + 2), .sl 1 ((c.take s.1).map fun p => procA (upP p)) (some s.2)]) :: .box b2 (.ag [AI 0, .v (.slice none 0 0)]) :: []))
    (fun s => s.1 ≤ c.length) (fun s => c.length - s.1) (0, .slice none 0 0) (Nat.zero_le _) rfl fun s hi ih => ?_
  obtain ⟨i, zp⟩ := s
  simp only at hi
  (repeat refine A.s rfl ?_)
  refine A.cond rfl (fun hc => ?_) (fun hc => ?_)
  · have hci : i < c.length := by simpa using hc
    refine Exists.elim (at_exN (l := c) (i := i) hci) fun p hp => ?_
    have hpm := List.mem_of_getElem? hp
    have hp70 := h70 p hpm
    have htk : c.take (i + 1) = c.take i ++ [p] := by rw [List.take_add_one, hp]; rfl
    (repeat refine A.s rfl ?_)
    refine A.nilTail 5 ty28.size rfl ?_
    refine A.keep [1, 2, 3, 4, 5, 6] rfl ?_
    refine A.loopP (ι := Nat × Value) (fun s => (⟨[(1, .pe 2 (netA n c)), (2, .v (.pointer (some ⟨b2, 0, none⟩))), (3, .v (.pointer (some ⟨b3, 0, none⟩))), (4, AI (i : Nat)), (5, .sl 1 ((p.take s.1).map fun s => rowI (up2 s)) (some s.2)), (6, AI (s.1 : Nat))], []⟩, .tail ty28.size s.2 :: .tail ty27.size zp :: .box b3 (.ag [AI (n + 2), .sl 1 ((c.take i).map fun p => procA (upP p)) (some zp)]) :: .box b2 (.ag [AI 0, .v (.slice none 0 0)]) :: []))
      (fun s => s.1 ≤ p.length) (fun s => p.length - s.1) (0, .slice none 0 0) (Nat.zero_le _) rfl fun s hj jh => ?_
    obtain ⟨j, z5⟩ := s
    simp only at hj
    (repeat refine A.s rfl ?_)
    refine A.x rfl (by show (0 : Int) ≤ (i : Nat); omega) (map_at hp) rfl rfl ?_
    (repeat refine A.s rfl ?_)
    refine A.cond rfl (fun hc => ?_) (fun hc => ?_)
    · have hcj : j < p.length := by simpa using hc
      refine Exists.elim (at_exN (l := p) (i := j) hcj) fun s hs => ?_
      have hsm := List.mem_of_getElem? hs
      have hsl := hS.row hpm hsm
      have htk2 : p.take (j + 1) = p.take j ++ [s] := by rw [List.take_add_one, hs]; rfl
      (repeat refine A.s rfl ?_)
      refine A.nilTail 7 ty3.size rfl ?_
      refine A.keep [1, 2, 3, 4, 5, 6, 7, 8] rfl ?_
      refine A.loopP (ι := Nat × Value) (fun q => (⟨[(1, .pe 2 (netA n c)), (2, .v (.pointer (some ⟨b2, 0, none⟩))), (3, .v (.pointer (some ⟨b3, 0, none⟩))), (4, AI (i : Nat)), (5, .sl 1 ((p.take j).map fun s => rowI (up2 s)) (some z5)), (6, AI (j : Nat)), (7, .sl 1 ((s.take q.1).map fun x => AI (x + 2)) (some q.2)), (8, AI (q.1 : Nat))], []⟩, .tail ty3.size q.2 :: .tail ty28.size z5 :: .tail ty27.size zp :: .box b3 (.ag [AI (n + 2), .sl 1 ((c.take i).map fun p => procA (upP p)) (some zp)]) :: .box b2 (.ag [AI 0, .v (.slice none 0 0)]) :: []))
        (fun q => q.1 ≤ s.length) (fun q => s.length - q.1) (0, .slice none 0 0) (Nat.zero_le _) rfl fun q hk kh => ?_
      obtain ⟨t, z7⟩ := q
      simp only at hk
      (repeat refine A.s rfl ?_)
      refine A.x rfl (by show (0 : Int) ≤ (i : Nat); omega) (map_at hp) rfl rfl ?_
      (repeat refine A.s rfl ?_)
      refine A.x rfl (by show (0 : Int) ≤ (j : Nat); omega) (map_at hs) rfl rfl ?_
      (repeat refine A.s rfl ?_)
      refine A.cond rfl (fun hc => ?_) (fun hc => ?_)
      · have hct : t < s.length := by simpa using hc
        refine Exists.elim (at_exN (l := s) (i := t) hct) fun x hx => ?_
        have hx64 := hB p hpm s hsm x (List.mem_of_getElem? hx)
        have htk3 : s.take (t + 1) = s.take t ++ [x] := by rw [List.take_add_one, hx]; rfl
        (repeat refine A.s rfl ?_)
        refine A.x rfl (by show (0 : Int) ≤ (i : Nat); omega) (map_at hp) rfl rfl ?_
        (repeat refine A.s rfl ?_)
        refine A.x rfl (by show (0 : Int) ≤ (j : Nat); omega) (map_at hs) rfl rfl ?_
        (repeat refine A.s rfl ?_)
        refine A.x rfl (by show (0 : Int) ≤ (t : Nat); omega) (map_at hx) rfl rfl ?_
        (repeat refine A.s rfl ?_)
        refine A.valE 55 rfl (x' := AI (x + 2)) (ai_eq (wr64 _ (by omega))) ?_
        (repeat refine A.t rfl fun bl=>?_)
        refine A.append rfl rfl rfl rfl rfl rfl rfl rfl rfl rfl rfl rfl rfl rfl (by show (((s.take t).map fun x => AI (x + 2)).length + 1) * 1 ≤ _; rw [List.length_map, List.length_take]; omega) fun z7' => ?_
        (repeat refine A.s rfl ?_)
        refine A.valE 7 rfl (x' := .sl 1 ((s.take (t + 1)).map fun x => AI (x + 2)) (some z7')) (by rw [htk3]; simp only [List.map_append, List.map_cons, List.map_nil]; rfl) ?_
        skip
        refine A.valE 8 rfl (x' := AI ((t + 1 : Nat) : Int)) (inc_eq t (by omega)) ?_
        refine A.sub (by repeat (first | exact trivial | refine ⟨⟨_, rfl, .refl⟩, ?_⟩)) (kh (t + 1, z7') (by show t + 1 ≤ _; omega) (by show _ - (t + 1) < _ - t; omega))
      have hct : ¬ t < s.length := by simpa using hc
      have htl : t = s.length := by omega
      refine A.val 7 rfl .own1 ?_
      refine A.valE 7 rfl (x' := rowI (up2 s)) (by rw [htl, List.take_length]; show _ = AV.sl 1 ((s.map (· + 2)).map AI) none; rw [List.map_map]; rfl) ?_
      (repeat first|refine A.s rfl ?_|refine A.t rfl fun bl=>?_)
      refine A.append rfl rfl rfl rfl rfl rfl rfl rfl rfl rfl rfl rfl rfl rfl (by show (((p.take j).map fun s => rowI (up2 s)).length + 1) * 1 ≤ _; rw [List.length_map, List.length_take]; omega) fun z5' => ?_
      (repeat refine A.s rfl ?_)
      refine A.valE 5 rfl (x' := .sl 1 ((p.take (j + 1)).map fun s => rowI (up2 s)) (some z5')) (by rw [htk2]; simp only [List.map_append, List.map_cons, List.map_nil]; rfl) ?_
      skip
      refine A.less (.cons_cons _ (.cons _ (.refl _))) ?_
      refine A.valE 6 rfl (x' := AI ((j + 1 : Nat) : Int)) (inc_eq j (by omega)) ?_
      refine A.sub (by repeat (first | exact trivial | refine ⟨⟨_, rfl, .refl⟩, ?_⟩)) (jh (j + 1, z5') (by show j + 1 ≤ _; omega) (by show _ - (j + 1) < _ - j; omega))
    have hcj : ¬ j < p.length := by simpa using hc
    have hjl : j = p.length := by omega
    refine A.val 5 rfl .own1 ?_
    refine A.valE 5 rfl (x' := procA (upP p)) (by rw [hjl, List.take_length]; show _ = AV.sl 1 ((p.map up2).map rowI) none; rw [List.map_map]; rfl) ?_
    (repeat first|refine A.s rfl ?_|refine A.r rfl rfl ?_|refine A.t rfl fun bl=>?_)
    refine A.append rfl rfl rfl rfl rfl rfl rfl rfl rfl rfl rfl rfl rfl rfl (by show (((c.take i).map fun p => procA (upP p)).length + 1) * 1 ≤ _; rw [List.length_map, List.length_take]; omega) fun zp' => ?_
    refine A.valE 66 rfl (x' := .sl 1 ((c.take (i + 1)).map fun p => procA (upP p)) (some zp')) (by rw [htk]; simp only [List.map_append, List.map_cons, List.map_nil]; rfl) ?_
    (repeat first|refine A.s rfl ?_|refine A.w rfl rfl ?_)
    refine A.less (.cons_cons _ (.cons _ (.refl _))) ?_
    refine A.valE 4 rfl (x' := AI ((i + 1 : Nat) : Int)) (inc_eq i (by omega)) ?_
    refine A.sub (by repeat (first | exact trivial | refine ⟨⟨_, rfl, .refl⟩, ?_⟩)) (ih (i + 1, zp') (by show i + 1 ≤ _; omega) (by show _ - (i + 1) < _ - i; omega))
  have hci : ¬ i < c.length := by simpa using hc
  have hil : i = c.length := by omega
  (repeat first|refine A.s rfl ?_|refine A.r rfl rfl ?_|refine A.w rfl rfl ?_)
  refine A.retC (Λ' := []) rfl rfl rfl rfl rfl (List.nil_sublist _) ⟨?_, rfl⟩
  rw [hil, List.take_length, ← hup]
  exact .ag (.cons .refl (.cons .own1 .refl))
end Go.Proofs.YtgmeahcclogfmaaDoor
/-!
  Chapter 23: the kernel of a network, as the law builds it.
-/
namespace Go.Proofs.YtgmeahcclogfmaaDoor
open Go Go.Tp
set_option linter.unusedVariables false
set_option linter.unusedSimpArgs false
set_option maxRecDepth 100000
set_option maxHeartbeats 4000000
def metL (m : Nat) (seen : List Int) : List AV := (List.range m).map fun (i : Nat) => AB (seen.contains (i : Int))
theorem metL_len (m : Nat) (seen : List Int) : (metL m seen).length = m := by rw [metL, List.length_map, List.length_range]
theorem metL_at {m : Nat} (seen : List Int) {x : Nat} (h : x < m) : (metL m seen)[x]? = some (AB (seen.contains (x : Int))) := range_at (fun (i : Nat) => AB (seen.contains (i : Int))) h
theorem metL_set (m : Nat) (seen : List Int) (x : Nat) : (metL m seen).set x (AB true) = metL m (seen ++ [(x : Int)]) := by
  apply List.ext_getElem?
  intro i
  rw [List.getElem?_set]
  by_cases h : i < m
  · rw [metL_at _ h, metL_at _ h, metL_len]
    by_cases hx : x = i
    · subst hx; rw [if_pos rfl, if_pos h]; simp
    · rw [if_neg hx]
      have : ¬ (i : Int) = x := by omega
      simp [this]
  · rw [List.getElem?_eq_none (l := metL m (seen ++ _)) (by rw [metL_len]; omega), List.getElem?_eq_none (by rw [metL_len]; omega), metL_len]
    split
    · split
      · omega
      · rfl
    · rfl
theorem metL_nil (m : Nat) : metL m [] = List.replicate m (AB false) := by
  show (List.range m).map (fun _ => AB false) = _
  rw [List.map_const', List.length_range]
theorem sb_while (l : List PR) (o1 o2 : Option Value) : Sb (.ag [AU8 13, AI 0, AI 0, AU8 0, nilV, .sl 6 [.ag [AU8 1, AU8 0, AU8 0, AI32 1, AI 0, nilV]] o1, nilV, .sl 8 [cellsR ⟨9, 0, 0, 0, [], [], [], l⟩] o2]) (cellsR (whileR l)) := by
  show Sb _ (.ag [AU8 13, AI 0, AI 0, AU8 0, plsA [], kesA [⟨1, 0, 0, 1, 0, []⟩], gsA [], .sl 8 (encRl [⟨9, 0, 0, 0, [], [], [], l⟩]) none])
  rw [pls_nil, kes_one, gs_nil, encRl_one]
  exact .ag (.cons .refl (.cons .refl (.cons .refl (.cons .refl (.cons .nil (.cons (.own (.cons (.ag (.cons .refl (.cons .refl (.cons .refl (.cons .refl (.cons .refl (.cons .nil .refl))))))) .refl)) (.cons .nil (.cons .own1 .refl))))))))
def kB (ch l : AV) : AV := .ag [.sl 2 [.ag [AU8 1, AI 0]] none, ch, AU8 10, AI 0, AI 0, AU8 0, nilV, nilV, nilV, l, nilV]
def sB (k : Int) (l : AV) : AV := .ag [AU8 k, AI 0, AI 0, AU8 0, nilV, nilV, nilV, l]
theorem built_p (m : Nat) (c : Procs) (hm : m ≤ 62) (hB : ∀ p, p ∈ c → ∀ s, s ∈ p → ∀ x, x ∈ s → 0 ≤ x ∧ x < m) (hS : Small c) : Pure Tryd.prog gs0 8 [netA m c] (encN (builtK m c)) := by
  have h20 := hS.procs
  have h70 := hS.steps
  refine Exists.elim (show ∃ R, R = encN (builtK m c) from ⟨_, rfl⟩) fun R hR => ?_
  rw [← hR]
  have hR : R = .ag [.sl 2 [.ag [AU8 1, AI 0]] none, .sl 1 ((1 :: 2 :: List.replicate m 0).map AU8) none, AU8 10, AI 0, AI 0, AU8 0, plsA [], kesA [], gsA [], rsA (procsS [] c), .sl 1 [] none] := hR
  rw [pls_nil, kes_nil, gs_nil, List.map_cons, List.map_cons, List.map_replicate] at hR
  refine Pure.of (S := tt) (fn := Tryd.f8) (n := 117) tt_ok Tryd.func8 rfl rfl rfl rfl fun w0 h0 F hgs => ?_
  (repeat refine A.s rfl ?_)
  refine A.b rfl fun b1 => ?_
  refine A.b rfl fun b2 => ?_
  refine A.freeze 1 (sz := 2) rfl rfl rfl ?_
  (repeat refine A.s rfl ?_)
  refine A.t rfl fun bv => ?_
  refine A.t rfl fun bc => ?_
  (repeat refine A.s rfl ?_)
  refine A.b rfl fun b3 => ?_
  (repeat first|refine A.s rfl ?_|refine A.w rfl rfl ?_)
  refine A.boxAs (b := b3) (x' := kB (.sl 1 (AU8 1 :: AU8 2 :: List.replicate 0 (AU8 0)) (some (.slice (some ⟨bc, 0, none⟩) 2 2))) (.sl 8 [] (some (.slice none 0 0)))) (.refl _) (fun h y r => Rp_ag_imp (RpC_imp (fun _ r => Sb.rp .own1 r) (RpC_imp (fun _ r => r) (RpC_imp (fun _ r => r) (RpC_imp (fun _ r => r) (RpC_imp (fun _ r => r) (RpC_imp (fun _ r => r) (RpC_imp (fun _ r => r) (RpC_imp (fun _ r => r) (RpC_imp (fun _ r => r) (RpC_imp (fun _ r => nil_own 8 r) (RpC_imp (fun _ r => r) fun _ r => r))))))))))) y r) ?_
  refine A.fullTail ty65.size 2 (some ⟨bc, 0, none⟩) (fun h => by cases h) (fun x h => by injection h with h; rw [← h]) ?_
  refine A.keep [1, 2, 3, 4] rfl ?_
  refine Exists.elim (show ∃ Z, Z = AV.ag [nilV, nilV, AU8 0, AI 0, AI 0, AU8 0, nilV, nilV, nilV, nilV, nilV] from ⟨_, rfl⟩) fun Z hZ => ?_
  refine A.entsEq (Λ' := .tail ty65.size (.slice (some ⟨bc, 0, none⟩) 2 2) :: .box b3 (kB (.sl 1 (AU8 1 :: AU8 2 :: List.replicate 0 (AU8 0)) (some (.slice (some ⟨bc, 0, none⟩) 2 2))) (.sl 8 [] (some (.slice none 0 0)))) :: .box b2 Z :: []) (by rw [hZ]; rfl) ?_
  refine A.loopP (ι := Nat × Value) (fun s => (⟨[(1, .pe 2 (netA m c)), (2, .v (.pointer (some ⟨b2, 0, none⟩))), (3, .v (.pointer (some ⟨b3, 0, none⟩))), (4, AI (s.1 : Nat))], []⟩, .tail ty65.size s.2 :: .box b3 (kB (.sl 1 (AU8 1 :: AU8 2 :: List.replicate s.1 (AU8 0)) (some s.2)) (.sl 8 [] (some (.slice none 0 0)))) :: .box b2 Z :: []))
    (fun s => s.1 ≤ m) (fun s => m - s.1) (0, .slice (some ⟨bc, 0, none⟩) 2 2) (Nat.zero_le _) rfl fun s hi ih => ?_
  obtain ⟨i, z⟩ := s
  simp only at hi
  (repeat refine A.s rfl ?_)
  refine A.cond rfl (fun hc => ?_) (fun hc => ?_)
  · have hci : i < m := by simpa using hc
    (repeat first|refine A.s rfl ?_|refine A.r rfl rfl ?_|refine A.t rfl fun bl=>?_)
    refine A.append rfl rfl rfl rfl rfl rfl rfl rfl rfl rfl rfl rfl rfl rfl (by show ((AU8 1 :: AU8 2 :: List.replicate i (AU8 0)).length + 1) * 1 ≤ _; simp; omega) fun z' => ?_
    refine A.valE 26 rfl (x' := .sl 1 (AU8 1 :: AU8 2 :: List.replicate (i + 1) (AU8 0)) (some z')) (by rw [List.replicate_succ']; rfl) ?_
    (repeat first|refine A.s rfl ?_|refine A.w rfl rfl ?_)
    refine A.valE 4 rfl (x' := AI ((i + 1 : Nat) : Int)) (inc_eq i (by omega)) ?_
    refine A.sub (by repeat (first | exact trivial | refine ⟨⟨_, rfl, .refl⟩, ?_⟩)) (ih (i + 1, z') (by show i + 1 ≤ _; omega) (by show _ - (i + 1) < _ - i; omega))
  have hci : ¬ i < m := by simpa using hc
  have him : i = m := by omega
  refine A.boxAs (b := b3) (x' := kB (.sl 1 (AU8 1 :: AU8 2 :: List.replicate m (AU8 0)) none) (.sl 8 [] (some (.slice none 0 0)))) (.swap _ _ _) (fun h y r => Rp_ag_imp (RpC_imp (fun _ r => r) (RpC_imp (fun _ r => (by rw [him] at r; exact Sb.rp .own1 r)) fun _ r => r)) y r) ?_
  refine A.less (.cons_cons _ (.cons _ (.refl _))) ?_
  (repeat refine A.s rfl ?_)
  refine A.makeV rfl rfl rfl rfl rfl rfl rfl rfl rfl rfl rfl rfl (by omega) (by show (1 : Int) * _ ≤ _; omega) (by omega) fun a cp hcp => ?_
  (repeat refine A.s rfl ?_)
  refine hollow1 ty40.size ?_
  refine A.keep [1, 2, 3, 5, 6] rfl ?_
  refine A.entsEq (Λ' := .tail ty40.size (.slice none 0 0) :: .row 1 (.slice a m cp) (metL m []) :: .box b3 (kB (.sl 1 (AU8 1 :: AU8 2 :: List.replicate m (AU8 0)) none) (.sl 8 [] (some (.slice none 0 0)))) :: .box b2 Z :: []) (by rw [metL_nil]; rfl) ?_
  refine A.loopP (ι := Nat × Value) (fun s => (⟨[(1, .pe 2 (netA m c)), (2, .v (.pointer (some ⟨b2, 0, none⟩))), (3, .v (.pointer (some ⟨b3, 0, none⟩))), (5, .ms (.slice a m cp) 1 m), (6, AI (s.1 : Nat))], []⟩, .tail ty40.size s.2 :: .row 1 (.slice a m cp) (metL m (c.take s.1).flatten.flatten) :: .box b3 (kB (.sl 1 (AU8 1 :: AU8 2 :: List.replicate m (AU8 0)) none) (.sl 8 (encRl (procsS [] (c.take s.1))) (some s.2))) :: .box b2 Z :: []))
    (fun s => s.1 ≤ c.length) (fun s => c.length - s.1) (0, .slice none 0 0) (Nat.zero_le _) (by rw [show encRl (procsS [] (c.take 0)) = [] by rw [List.take_zero, procsS, encRl]]; rfl) fun s hi ih => ?_
  obtain ⟨i, zr⟩ := s
  simp only at hi
  (repeat refine A.s rfl ?_)
  refine A.cond rfl (fun hc => ?_) (fun hc => ?_)
  · have hci : i < c.length := by simpa using hc
    refine Exists.elim (at_exN (l := c) (i := i) hci) fun p hp => ?_
    have hpm := List.mem_of_getElem? hp
    have hp70 := h70 p hpm
    have htk : c.take (i + 1) = c.take i ++ [p] := by rw [List.take_add_one, hp]; rfl
    refine Exists.elim (show ∃ seen, seen = (c.take i).flatten.flatten from ⟨_, rfl⟩) fun seen hseen => ?_
    refine A.entsEq (Λ' := .tail ty40.size zr :: .row 1 (.slice a m cp) (metL m seen) :: .box b3 (kB (.sl 1 (AU8 1 :: AU8 2 :: List.replicate m (AU8 0)) none) (.sl 8 (encRl (procsS [] (c.take i))) (some zr))) :: .box b2 Z :: []) (by rw [hseen]) ?_
    (repeat refine A.s rfl ?_)
    refine A.b rfl fun b7 => ?_
    (repeat first|refine A.s rfl ?_|refine A.w rfl rfl ?_)
    refine A.boxAs (b := b7) (x' := sB 9 (.sl 8 [] (some (.slice none 0 0)))) (.refl _) (fun h y r => Rp_ag_imp (RpC_imp (fun _ r => r) (RpC_imp (fun _ r => r) (RpC_imp (fun _ r => r) (RpC_imp (fun _ r => r) (RpC_imp (fun _ r => r) (RpC_imp (fun _ r => r) (RpC_imp (fun _ r => r) (RpC_imp (fun _ r => nil_own 8 r) fun _ r => r)))))))) y r) ?_
    refine hollow1 ty40.size ?_
    refine A.keep [1, 2, 3, 5, 6, 7, 8] rfl ?_
    refine A.perm (Λ' := .tail ty40.size (.slice none 0 0) :: .box b7 (sB 9 (.sl 8 [] (some (.slice none 0 0)))) :: .row 1 (.slice a m cp) (metL m seen) :: .tail ty40.size zr :: .box b3 (kB (.sl 1 (AU8 1 :: AU8 2 :: List.replicate m (AU8 0)) none) (.sl 8 (encRl (procsS [] (c.take i))) (some zr))) :: .box b2 Z :: []) (.cons _ (.cons _ (.swap _ _ _))) ?_
    refine A.loopP (ι := Nat × Value) (fun s => (⟨[(1, .pe 2 (netA m c)), (2, .v (.pointer (some ⟨b2, 0, none⟩))), (3, .v (.pointer (some ⟨b3, 0, none⟩))), (5, .ms (.slice a m cp) 1 m), (6, AI (i : Nat)), (7, .v (.pointer (some ⟨b7, 0, none⟩))), (8, AI (s.1 : Nat))], []⟩, .tail ty40.size s.2 :: .box b7 (sB 9 (.sl 8 (encRl (stepsS seen (p.take s.1))) (some s.2))) :: .row 1 (.slice a m cp) (metL m (seen ++ (p.take s.1).flatten)) :: .tail ty40.size zr :: .box b3 (kB (.sl 1 (AU8 1 :: AU8 2 :: List.replicate m (AU8 0)) none) (.sl 8 (encRl (procsS [] (c.take i))) (some zr))) :: .box b2 Z :: []))
      (fun s => s.1 ≤ p.length) (fun s => p.length - s.1) (0, .slice none 0 0) (Nat.zero_le _) (by rw [show encRl (stepsS seen (p.take 0)) = [] by rw [List.take_zero, stepsS, encRl], List.take_zero, List.flatten_nil, List.append_nil]; rfl) fun s hj jh => ?_
    obtain ⟨j, zs⟩ := s
    simp only at hj
    (repeat refine A.s rfl ?_)
    refine A.x rfl (by show (0 : Int) ≤ (i : Nat); omega) (map_at hp) rfl rfl ?_
    (repeat refine A.s rfl ?_)
    refine A.cond rfl (fun hc => ?_) (fun hc => ?_)
    · have hcj : j < p.length := by simpa using hc
      refine Exists.elim (at_exN (l := p) (i := j) hcj) fun s hs => ?_
      have hsm := List.mem_of_getElem? hs
      have hsl := hS.row hpm hsm
      have htk2 : p.take (j + 1) = p.take j ++ [s] := by rw [List.take_add_one, hs]; rfl
      refine Exists.elim (show ∃ sj, sj = seen ++ (p.take j).flatten from ⟨_, rfl⟩) fun sj hsj => ?_
      refine A.entsEq (Λ' := .tail ty40.size zs :: .box b7 (sB 9 (.sl 8 (encRl (stepsS seen (p.take j))) (some zs))) :: .row 1 (.slice a m cp) (metL m sj) :: .tail ty40.size zr :: .box b3 (kB (.sl 1 (AU8 1 :: AU8 2 :: List.replicate m (AU8 0)) none) (.sl 8 (encRl (procsS [] (c.take i))) (some zr))) :: .box b2 Z :: []) (by rw [hsj]) ?_
      (repeat refine A.s rfl ?_)
      refine A.b rfl fun b9 => ?_
      (repeat first|refine A.s rfl ?_|refine A.w rfl rfl ?_)
      refine A.boxAs (b := b9) (x' := sB 10 (.sl 8 [] (some (.slice none 0 0)))) (.refl _) (fun h y r => Rp_ag_imp (RpC_imp (fun _ r => r) (RpC_imp (fun _ r => r) (RpC_imp (fun _ r => r) (RpC_imp (fun _ r => r) (RpC_imp (fun _ r => r) (RpC_imp (fun _ r => r) (RpC_imp (fun _ r => r) (RpC_imp (fun _ r => nil_own 8 r) fun _ r => r)))))))) y r) ?_
      refine hollow1 ty40.size ?_
      refine A.keep [1, 2, 3, 5, 6, 7, 8, 9, 10] rfl ?_
      refine A.loopP (ι := Nat × Value) (fun q => (⟨[(1, .pe 2 (netA m c)), (2, .v (.pointer (some ⟨b2, 0, none⟩))), (3, .v (.pointer (some ⟨b3, 0, none⟩))), (5, .ms (.slice a m cp) 1 m), (6, AI (i : Nat)), (7, .v (.pointer (some ⟨b7, 0, none⟩))), (8, AI (j : Nat)), (9, .v (.pointer (some ⟨b9, 0, none⟩))), (10, AI (q.1 : Nat))], []⟩, .tail ty40.size q.2 :: .box b9 (sB 10 (.sl 8 (encRl (endsS sj (s.take q.1))) (some q.2))) :: .tail ty40.size zs :: .box b7 (sB 9 (.sl 8 (encRl (stepsS seen (p.take j))) (some zs))) :: .row 1 (.slice a m cp) (metL m (sj ++ s.take q.1)) :: .tail ty40.size zr :: .box b3 (kB (.sl 1 (AU8 1 :: AU8 2 :: List.replicate m (AU8 0)) none) (.sl 8 (encRl (procsS [] (c.take i))) (some zr))) :: .box b2 Z :: []))
        (fun q => q.1 ≤ s.length) (fun q => s.length - q.1) (0, .slice none 0 0) (Nat.zero_le _) (by rw [show encRl (endsS sj (s.take 0)) = [] by rw [List.take_zero, endsS, encRl], List.take_zero, List.append_nil]; rfl) fun q hk kh => ?_
      obtain ⟨t, ze⟩ := q
      simp only at hk
      (repeat refine A.s rfl ?_)
      refine A.x rfl (by show (0 : Int) ≤ (i : Nat); omega) (map_at hp) rfl rfl ?_
      (repeat refine A.s rfl ?_)
      refine A.x rfl (by show (0 : Int) ≤ (j : Nat); omega) (map_at hs) rfl rfl ?_
      (repeat refine A.s rfl ?_)
      refine A.cond rfl (fun hc => ?_) (fun hc => ?_)
      · have hct : t < s.length := by simpa using hc
        refine Exists.elim (at_exN (l := s) (i := t) hct) fun x hx => ?_
        have hxm := hB p hpm s hsm x (List.mem_of_getElem? hx)
        refine Exists.elim (nat_of (x := x) ⟨hxm.1, by omega⟩) fun xn hxn => ?_
        have hxe := hxn.2
        subst hxe
        have hxl : xn < m := by omega
        have htk3 : s.take (t + 1) = s.take t ++ [(xn : Int)] := by rw [List.take_add_one, hx]; rfl
        have hend := end_p ((xn : Int) + 2) (!(sj ++ s.take t).contains (xn : Int))
        (repeat refine A.s rfl ?_)
        refine A.x rfl (by show (0 : Int) ≤ (i : Nat); omega) (map_at hp) rfl rfl ?_
        (repeat refine A.s rfl ?_)
        refine A.x rfl (by show (0 : Int) ≤ (j : Nat); omega) (map_at hs) rfl rfl ?_
        (repeat refine A.s rfl ?_)
        refine A.x rfl (by show (0 : Int) ≤ (t : Nat); omega) (map_at hx) rfl rfl ?_
        (repeat refine A.s rfl ?_)
        refine A.draw 11 [0, 1, 2, 3, 4, 5, 6, 7, 8, 9, 10] noPubs [(9, cellsR (endR ((xn : Int) + 2) (!(sj ++ s.take t).contains (xn : Int))))] (by kernel_rfl) (by kernel_rfl) ?_
        (repeat first|refine WA.s rfl ?_|refine WA.r rfl rfl ?_)
        refine WA.valE 77 rfl (x' := AI ((xn : Int) + 2)) (ai_eq (wr64 _ (by omega))) ?_
        refine WA.indexRow rfl rfl rfl rfl rfl rfl rfl rfl rfl (by omega) (by rw [metL_len]; omega) rfl ?_
        skip
        refine WA.loadRow rfl rfl rfl rfl rfl rfl rfl (y' := AB ((sj ++ s.take t).contains (xn : Int))) rfl (metL_at _ hxl) rfl rfl ?_
        (repeat refine WA.s rfl ?_)
        refine WA.c rfl rfl hend (.sub .refl) ?_
        skip
        refine WA.lit rfl rfl rfl rfl rfl rfl rfl fun bw => ?_
        refine WA.nil (l := [.row 8 (.slice (some ⟨bw, 0, none⟩) 1 1) [cellsR (endR ((xn : Int) + 2) (!(sj ++ s.take t).contains (xn : Int)))]]) rfl ?_
        refine A.freezeRow 84 rfl ?_
        refine A.append rfl rfl rfl rfl rfl rfl rfl rfl rfl rfl rfl rfl rfl rfl (by show ((encRl (endsS sj (s.take t))).length + 1) * 8 ≤ _; rw [encRl_len, endsS_len, List.length_take]; omega) fun ze' => ?_
        refine A.valE 85 rfl (x' := .sl 8 (encRl (endsS sj (s.take (t + 1)))) (some ze')) (by rw [htk3, endsS_snoc, encRl_app, encRl_one]; rfl) ?_
        (repeat first|refine A.s rfl ?_|refine A.w rfl rfl ?_)
        refine A.indexRow rfl rfl rfl rfl rfl rfl rfl rfl (by omega) (by rw [metL_len]; omega) rfl ?_
        skip
        refine A.storeRow rfl rfl rfl rfl rfl rfl rfl rfl rfl (by rw [metL_len]; show xn < m; omega) (xs' := metL m (sj ++ s.take (t + 1))) (by rw [htk3, ← List.append_assoc]; exact metL_set m _ xn) ?_
        (repeat refine A.s rfl ?_)
        refine A.valE 10 rfl (x' := AI ((t + 1 : Nat) : Int)) (inc_eq t (by omega)) ?_
        refine A.sub (by repeat (first | exact trivial | refine ⟨⟨_, rfl, .refl⟩, ?_⟩)) (kh (t + 1, ze') (by show t + 1 ≤ _; omega) (by show _ - (t + 1) < _ - t; omega))
      have hct : ¬ t < s.length := by simpa using hc
      have htl : t = s.length := by omega
      refine A.entsEq (Λ' := .tail ty40.size ze :: .box b9 (sB 10 (.sl 8 (encRl (endsS sj s)) (some ze))) :: .tail ty40.size zs :: .box b7 (sB 9 (.sl 8 (encRl (stepsS seen (p.take j))) (some zs))) :: .row 1 (.slice a m cp) (metL m (sj ++ s)) :: .tail ty40.size zr :: .box b3 (kB (.sl 1 (AU8 1 :: AU8 2 :: List.replicate m (AU8 0)) none) (.sl 8 (encRl (procsS [] (c.take i))) (some zr))) :: .box b2 Z :: []) (by rw [htl, List.take_length]) ?_
      (repeat first|refine A.s rfl ?_|refine A.r rfl rfl ?_)
      refine A.cond rfl (fun hc => ?_) (fun hc => ?_)
      · have hl1 : s.length = 1 := by have := hc; rw [encRl_len, endsS_len] at this; simp at this; omega
        have he1 : (endsS sj s).length = 1 := by rw [endsS_len]; exact hl1
        refine Exists.elim (at_exN (l := endsS sj s) (i := 0) (by omega)) fun e he => ?_
        have hee : endsS sj s = [e] := by
          cases hh : endsS sj s with
          | nil => rw [hh] at he1; cases he1
          | cons a b =>
            rw [hh] at he he1
            have hb : b = [] := List.length_eq_zero_iff.1 (by simpa using he1)
            injection he with he
            rw [hb, he]
        have hpar : cellsR e = cellsR (parR (endsS sj s)) := by rw [hee]; rfl
        (repeat first|refine A.s rfl ?_|refine A.r rfl rfl ?_)
        refine A.x rfl (by decide) (encRl_at he) (encR_eq e) rfl ?_
        (repeat first|refine A.s rfl ?_|refine A.r rfl rfl ?_|refine A.w rfl rfl ?_)
        refine A.valE 100 rfl (x' := cellsR (parR (endsS sj s))) hpar ?_
        (repeat refine A.t rfl fun bl=>?_)
        refine A.append rfl rfl rfl rfl rfl rfl rfl rfl rfl rfl rfl rfl rfl rfl (by show ((encRl (stepsS seen (p.take j))).length + 1) * 8 ≤ _; rw [encRl_len, stepsS_len, List.length_take]; omega) fun zs' => ?_
        refine A.valE 102 rfl (x' := .sl 8 (encRl (stepsS seen (p.take (j + 1)))) (some zs')) (by rw [htk2, stepsS_snoc, encRl_app, encRl_one, ← hsj]; rfl) ?_
        (repeat first|refine A.s rfl ?_|refine A.w rfl rfl ?_)
        refine A.valE 8 rfl (x' := AI ((j + 1 : Nat) : Int)) (inc_eq j (by omega)) ?_
        refine A.entsEq (Λ' := .tail ty40.size zs' :: .tail ty40.size ze :: .box b9 _ :: .box b7 (sB 9 (.sl 8 (encRl (stepsS seen (p.take (j + 1)))) (some zs'))) :: .row 1 (.slice a m cp) (metL m (seen ++ (p.take (j + 1)).flatten)) :: .tail ty40.size zr :: .box b3 (kB (.sl 1 (AU8 1 :: AU8 2 :: List.replicate m (AU8 0)) none) (.sl 8 (encRl (procsS [] (c.take i))) (some zr))) :: .box b2 Z :: []) (by rw [htk2, List.flatten_append, List.flatten_singleton, ← List.append_assoc, ← hsj]; rfl) ?_
        refine A.less (.cons_cons _ (.cons _ (.cons _ (.refl _)))) ?_
        refine A.sub (by repeat (first | exact trivial | refine ⟨⟨_, rfl, .refl⟩, ?_⟩)) (jh (j + 1, zs') (by show j + 1 ≤ _; omega) (by show _ - (j + 1) < _ - j; omega))
      · have hl1 : s.length ≠ 1 := by have := hc; rw [encRl_len, endsS_len] at this; simp at this; omega
        have hpar : cellsR ⟨10, 0, 0, 0, [], [], [], endsS sj s⟩ = cellsR (parR (endsS sj s)) := by
          unfold parR
          split
          · rename_i x hh
            have := congrArg List.length hh
            rw [endsS_len] at this; exact (hl1 this).elim
          · rfl
        (repeat first|refine A.s rfl ?_|refine A.r rfl rfl ?_)
        refine A.val 100 rfl (sb_seq 10 (endsS sj s) (some ze)) ?_
        refine A.valE 100 rfl (x' := cellsR (parR (endsS sj s))) hpar ?_
        (repeat refine A.t rfl fun bl=>?_)
        refine A.append rfl rfl rfl rfl rfl rfl rfl rfl rfl rfl rfl rfl rfl rfl (by show ((encRl (stepsS seen (p.take j))).length + 1) * 8 ≤ _; rw [encRl_len, stepsS_len, List.length_take]; omega) fun zs' => ?_
        refine A.valE 102 rfl (x' := .sl 8 (encRl (stepsS seen (p.take (j + 1)))) (some zs')) (by rw [htk2, stepsS_snoc, encRl_app, encRl_one, ← hsj]; rfl) ?_
        (repeat first|refine A.s rfl ?_|refine A.w rfl rfl ?_)
        refine A.valE 8 rfl (x' := AI ((j + 1 : Nat) : Int)) (inc_eq j (by omega)) ?_
        refine A.entsEq (Λ' := .tail ty40.size zs' :: .tail ty40.size ze :: .box b9 _ :: .box b7 (sB 9 (.sl 8 (encRl (stepsS seen (p.take (j + 1)))) (some zs'))) :: .row 1 (.slice a m cp) (metL m (seen ++ (p.take (j + 1)).flatten)) :: .tail ty40.size zr :: .box b3 (kB (.sl 1 (AU8 1 :: AU8 2 :: List.replicate m (AU8 0)) none) (.sl 8 (encRl (procsS [] (c.take i))) (some zr))) :: .box b2 Z :: []) (by rw [htk2, List.flatten_append, List.flatten_singleton, ← List.append_assoc, ← hsj]; rfl) ?_
        refine A.less (.cons_cons _ (.cons _ (.cons _ (.refl _)))) ?_
        refine A.sub (by repeat (first | exact trivial | refine ⟨⟨_, rfl, .refl⟩, ?_⟩)) (jh (j + 1, zs') (by show j + 1 ≤ _; omega) (by show _ - (j + 1) < _ - j; omega))
    have hcj : ¬ j < p.length := by simpa using hc
    have hjl : j = p.length := by omega
    refine A.entsEq (Λ' := .tail ty40.size zs :: .box b7 (sB 9 (.sl 8 (encRl (stepsS seen p)) (some zs))) :: .row 1 (.slice a m cp) (metL m (seen ++ p.flatten)) :: .tail ty40.size zr :: .box b3 (kB (.sl 1 (AU8 1 :: AU8 2 :: List.replicate m (AU8 0)) none) (.sl 8 (encRl (procsS [] (c.take i))) (some zr))) :: .box b2 Z :: []) (by rw [hjl, List.take_length]) ?_
    (repeat first|refine A.s rfl ?_|refine A.r rfl rfl ?_)
    refine A.t rfl fun bl1 => ?_
    (repeat refine A.r rfl rfl ?_)
    refine A.val 109 rfl (sb_seq 9 (stepsS seen p) (some zs)) ?_
    refine A.t rfl fun bl2 => ?_
    (repeat refine A.s rfl ?_)
    refine A.val 111 rfl (sb_while (stepsS seen p) _ _) ?_
    refine A.t rfl fun bl3 => ?_
    refine A.append rfl rfl rfl rfl rfl rfl rfl rfl rfl rfl rfl rfl rfl rfl (by show ((encRl (procsS [] (c.take i))).length + 1) * 8 ≤ _; rw [encRl_len, procsS_len, List.length_take]; omega) fun zr' => ?_
    refine A.valE 113 rfl (x' := .sl 8 (encRl (procsS [] (c.take (i + 1)))) (some zr')) (by rw [htk, procsS_snoc, encRl_app, encRl_one, List.nil_append, ← hseen]; rfl) ?_
    (repeat first|refine A.s rfl ?_|refine A.w rfl rfl ?_)
    refine A.valE 6 rfl (x' := AI ((i + 1 : Nat) : Int)) (inc_eq i (by omega)) ?_
    refine A.entsEq (Λ' := .tail ty40.size zr' :: .tail ty40.size zs :: .box b7 (sB 9 (.sl 8 (encRl (stepsS seen p)) (some zs))) :: .row 1 (.slice a m cp) (metL m (c.take (i + 1)).flatten.flatten) :: .box b3 (kB (.sl 1 (AU8 1 :: AU8 2 :: List.replicate m (AU8 0)) none) (.sl 8 (encRl (procsS [] (c.take (i + 1)))) (some zr'))) :: .box b2 Z :: []) (by rw [htk, List.flatten_append, List.flatten_append, List.flatten_singleton, ← hseen]; rfl) ?_
    refine A.less (.cons_cons _ (.cons _ (.cons _ (.refl _)))) ?_
    refine A.sub (by repeat (first | exact trivial | refine ⟨⟨_, rfl, .refl⟩, ?_⟩)) (ih (i + 1, zr') (by show i + 1 ≤ _; omega) (by show _ - (i + 1) < _ - i; omega))
  have hci : ¬ i < c.length := by simpa using hc
  have hil : i = c.length := by omega
  refine A.entsEq (Λ' := _ :: _ :: _ :: .box b2 (.ag [nilV, nilV, AU8 0, AI 0, AI 0, AU8 0, nilV, nilV, nilV, nilV, nilV]) :: []) (by rw [← hZ]) ?_
  (repeat first|refine A.s rfl ?_|refine A.r rfl rfl ?_|refine A.w rfl rfl ?_)
  refine A.retC (Λ' := []) rfl rfl rfl rfl rfl (List.nil_sublist _) ⟨?_, rfl⟩
  rw [hR, hil, List.take_length]
  exact .ag (.cons .refl (.cons .refl (.cons .refl (.cons .refl (.cons .refl (.cons .refl (.cons .nil (.cons .nil (.cons .nil (.cons .own1 (.cons .nil .refl)))))))))))
end Go.Proofs.YtgmeahcclogfmaaDoor
/-!
  Chapter 23: Class, by the program.
-/
namespace Go.Proofs.YtgmeahcclogfmaaDoor
open Go Go.Tp
set_option linter.unusedVariables false
set_option linter.unusedSimpArgs false
set_option maxRecDepth 100000
set_option maxHeartbeats 4000000
theorem shapeU (u : List EN) : u = [] ∨ (∃ x y, u = [x, y]) ∨ (u.length ≠ 0 ∧ u.length ≠ 2) := by
  match u with
  | [] => exact .inl rfl
  | [x] => exact .inr (.inr ⟨by simp, by simp⟩)
  | [x, y] => exact .inr (.inl ⟨x, y, rfl⟩)
  | x :: y :: z :: r => exact .inr (.inr ⟨by simp, by simp⟩)
theorem pairOk_long {u : List EN} (h0 : u.length ≠ 0) (h2 : u.length ≠ 2) : pairOk u = false := by
  match u, h0, h2 with
  | [x], _, _ => rfl
  | x :: y :: z :: r, _, _ => rfl
  | [], h, _ => simp at h
  | [x, y], _, h => simp at h
theorem class_no (k : KN) (q : PR) (m t : Bool) (hmt : (m && t) = false) (hlast : Pure Tryd.prog gsQ 16 [cellsR k.root, AU8 10] (.tp [cellsR q, AB t])) (hmay : Pure Tryd.prog gsQ 17 [encN k] (AB m)) :
    Pure Tryd.prog gsQ 7 [encN k] (classR k.chans.length (netC k q) false) := by
  cases m with
  | false =>
    refine Pure.of (S := tt) (fn := Tryd.f7) (n := 143) tt_ok Tryd.func7 rfl rfl rfl rfl fun w0 h0 F hgs => ?_
    (repeat first|refine A.s rfl ?_|refine A.r rfl rfl ?_|refine A.b rfl fun bx=>?_)
    refine A.c rfl hlast .refl ?_
    (repeat first|refine A.s rfl ?_|refine A.r rfl rfl ?_|refine A.w rfl rfl ?_|refine A.b rfl fun bx=>?_)
    refine A.c rfl hmay .refl ?_
    (repeat first|refine A.s rfl ?_|refine A.w rfl rfl ?_); refine A.retN (Λ' := []) rfl rfl (ResA.cell rfl rfl rfl (ResA.tmp rfl ResA.nil)) (List.nil_sublist _) ⟨?_, rfl⟩; exact Sb.tp (.cons (.ag (.cons .refl (.cons .nil .refl))) .refl)
  | true =>
    rw [Bool.true_and] at hmt
    subst hmt
    refine Pure.of (S := tt) (fn := Tryd.f7) (n := 143) tt_ok Tryd.func7 rfl rfl rfl rfl fun w0 h0 F hgs => ?_
    (repeat first|refine A.s rfl ?_|refine A.r rfl rfl ?_|refine A.b rfl fun bx=>?_)
    refine A.c rfl hlast .refl ?_
    (repeat first|refine A.s rfl ?_|refine A.r rfl rfl ?_|refine A.w rfl rfl ?_|refine A.b rfl fun bx=>?_)
    refine A.c rfl hmay .refl ?_
    (repeat first|refine A.s rfl ?_|refine A.w rfl rfl ?_); refine A.retN (Λ' := []) rfl rfl (ResA.cell rfl rfl rfl (ResA.tmp rfl ResA.nil)) (List.nil_sublist _) ⟨?_, rfl⟩; exact Sb.tp (.cons (.ag (.cons .refl (.cons .nil .refl))) .refl)
theorem class_yes (k : KN) (q : PR) (g : Good k q) (h10 : q.kind = 10) (h64 : k.chans.length ≤ 64) (hlast : Pure Tryd.prog gsQ 16 [cellsR k.root, AU8 10] (.tp [cellsR q, AB true])) (hmay : Pure Tryd.prog gsQ 17 [encN k] (AB true))
    (R : AV) (hR : R = classR k.chans.length (netC k q) (classB k q)) : Pure Tryd.prog gsQ 7 [encN k] R := by
  have h16 := g.ten h10
  have hcm := (nmay_p k.chans.length (netC k q) (short_net g)).any (gs := gsQ)
  have hbad : pairsB (restE k 0 q.l) = false → R = classR k.chans.length (netC k q) false := fun h => by rw [hR, classB, h, Bool.false_and]
  have hTl := rest_len (k := k) (l := q.l) 0 fun p hp => g.l hp
  have hgood : pairsB (restE k 0 q.l) = true → R = classR k.chans.length (netC k q) (nmayB k.chans.length (netC k q)) := fun h => by rw [hR, classB, h, Bool.true_and]
  clear hR
  obtain ⟨T, hT⟩ : ∃ T, T = restE k 0 q.l := ⟨_, rfl⟩
  rw [← hT] at hbad hgood hTl
  have hnet : (q.l.map fun p => procA (procC k p)) = (netC k q).map procA := by rw [netC, List.map_map]; rfl
  refine Pure.of (S := tt) (fn := Tryd.f7) (n := 143) tt_ok Tryd.func7 rfl rfl rfl rfl fun w0 h0 F hgs => ?_
  (repeat refine A.s rfl ?_)
  refine A.b rfl fun b1 => ?_
  refine A.b rfl fun b2 => ?_
  (repeat first|refine A.s rfl ?_|refine A.r rfl rfl ?_)
  refine A.c rfl hlast .refl ?_
  (repeat first|refine A.s rfl ?_|refine A.r rfl rfl ?_|refine A.w rfl rfl ?_|refine A.b rfl fun bx=>?_)
  refine A.c rfl hmay .refl ?_
  (repeat first|refine A.s rfl ?_|refine A.r rfl rfl ?_|refine A.w rfl rfl ?_)
  refine A.b rfl fun b6 => ?_
  refine A.headEq (.ag (List.replicate 64 (.v (.slice none 0 0)))) (by kernel_rfl) ?_
  refine A.boxAs (.refl _) (x' := .ag (usrL [] fun _ => .slice none 0 0)) (fun h y r => usr_from r) ?_
  (repeat first|refine A.s rfl ?_|refine A.r rfl rfl ?_)
  refine A.valE 37 rfl (x' := AI (q.l.length : Nat)) (ai_eq (by rw [encRl_len])) ?_
  refine A.keep [1, 2, 6, 36, 37, 38] rfl ?_
  refine A.boxAs (b := b2) (x' := .ag [AI (k.chans.length : Nat), .sl 1 [] (some (.slice none 0 0))]) (.trans (.cons _ (.swap _ _ _)) (.swap _ _ _)) (fun h y r => Rp_ag_imp (RpC_imp (fun _ r => by
    rwa [List.length_map] at r) (RpC_imp (fun _ r => nil_own 1 r) fun _ r => r)) y r) ?_
  refine hollow1 ty27.size ?_
  refine hollows (sz := 3) 64 ?_
  refine A.less (Λ' := .tail ty27.size (.slice none 0 0) :: .box b2 _ :: .box b6 _ :: .box b1 _ :: tailsL fun _ => .slice none 0 0) (.cons_cons _ (.cons_cons _ (.cons_cons _ (.cons _ (.cons_cons _ (by rw [tails_nil]; exact .refl _)))))) ?_
  refine A.loopP (ι := Nat × (List EN × ((Nat → Value) × Value))) (fun s => (⟨[(1, .v (.pointer (some ⟨b1, 0, none⟩))), (2, .v (.pointer (some ⟨b2, 0, none⟩))), (6, .v (.pointer (some ⟨b6, 0, none⟩))), (36, rsA q.l), (37, AI (q.l.length : Nat)), (38, AI (s.1 : Nat))], []⟩, .tail ty27.size s.2.2.2 :: .box b2 (.ag [AI (k.chans.length : Nat), .sl 1 ((q.l.take s.1).map fun p => procA (procC k p)) (some s.2.2.2)]) :: .box b6 (.ag (usrL s.2.1 s.2.2.1)) :: .box b1 (encN k) :: tailsL s.2.2.1))
    (fun s => s.1 ≤ q.l.length ∧ s.2.1 ++ restE k s.1 (q.l.drop s.1) = T) (fun s => q.l.length - s.1) (0, ([], ((fun _ => .slice none 0 0), .slice none 0 0))) ⟨Nat.zero_le _, hT.symm⟩ rfl fun s hi ih => ?_
  obtain ⟨i, E, z, zp⟩ := s
  obtain ⟨hi1, hi2⟩ := hi
  simp only at hi1 hi2
  (repeat refine A.s rfl ?_)
  refine A.cond rfl (fun hc => ?_) (fun hc => ?_)
  · have hc : i < q.l.length := by simpa using hc
    refine Exists.elim (at_exN (l := q.l) (i := i) hc) fun p hp => ?_
    have gp : Good k p := g.l (List.mem_of_getElem? hp)
    have hcyc := branch_p k p gp
    have hC16 := fun s => cycl_one gp (s := s)
    have hClen := cycl_len gp
    have hCp : procC k p = (cycP k p).map (·.map (·.c)) := rfl
    have h1 : E ++ (endsP k i p ++ restE k (i + 1) (q.l.drop (i + 1))) = T := by have := hi2; rw [drop_at hp, restE] at this; exact this
    rw [endsP] at h1
    refine Exists.elim (show ∃ C, C = cycP k p from ⟨_, rfl⟩) fun C hC => ?_
    rw [← hC] at hcyc hC16 hClen hCp h1
    refine Exists.elim (show ∃ X, X = restE k (i + 1) (q.l.drop (i + 1)) from ⟨_, rfl⟩) fun X hX => ?_
    rw [← hX] at h1
    (repeat refine A.s rfl ?_)
    refine A.x rfl (by show (0 : Int) ≤ (i : Nat); omega) (encRl_at hp) (encR_eq p) rfl ?_
    (repeat first|refine A.s rfl ?_|refine A.r rfl rfl ?_|refine A.w rfl rfl ?_|refine A.b rfl fun bx=>?_)
    refine A.c rfl hcyc .refl ?_
    (repeat refine A.s rfl ?_)
    refine A.valE 46 rfl (x' := AI (C.length : Nat)) (ai_eq (by rw [List.length_map])) ?_
    refine A.nilTail 9 ty28.size rfl ?_
    refine A.keep [1, 2, 6, 7, 9, 36, 37, 38, 45, 46, 47] rfl ?_
    refine A.less (.cons_cons _ (.cons _ (.refl _))) ?_
    refine A.loopP (ι := Nat × (Value × (List EN × (Nat → Value)))) (fun s => (⟨[(1, .v (.pointer (some ⟨b1, 0, none⟩))), (2, .v (.pointer (some ⟨b2, 0, none⟩))), (6, .v (.pointer (some ⟨b6, 0, none⟩))), (7, AI (i : Nat)), (9, .sl 1 ((C.take s.1).map fun t => rowI (t.map (·.c))) (some s.2.1)), (36, rsA q.l), (37, AI (q.l.length : Nat)), (38, AI (i : Nat)), (45, stepsA C), (46, AI (C.length : Nat)), (47, AI (s.1 : Nat))], []⟩, .tail ty28.size s.2.1 :: .tail ty27.size zp :: .box b2 (.ag [AI (k.chans.length : Nat), .sl 1 ((q.l.take i).map fun p => procA (procC k p)) (some zp)]) :: .box b6 (.ag (usrL s.2.2.1 s.2.2.2)) :: .box b1 (encN k) :: tailsL s.2.2.2))
      (fun s => s.1 ≤ C.length ∧ s.2.2.1 ++ (((C.drop s.1).map (·.map (endOf i))).flatten ++ X) = T) (fun s => C.length - s.1) (0, (.slice none 0 0, (E, z))) ⟨Nat.zero_le _, h1⟩ rfl fun s hj jh => ?_
    obtain ⟨j, z9, E1, z1⟩ := s
    obtain ⟨hj1, hj2⟩ := hj
    simp only at hj1 hj2
    (repeat refine A.s rfl ?_)
    refine A.cond rfl (fun hc => ?_) (fun hc => ?_)
    · have hc : j < C.length := by simpa using hc
      refine Exists.elim (at_exN (l := C) (i := j) hc) fun st hst => ?_
      have hs16 := (hC16 st (List.mem_of_getElem? hst)).1
      have hsx := (hC16 st (List.mem_of_getElem? hst)).2
      have h2 : E1 ++ (st.map (endOf i) ++ (((C.drop (j + 1)).map (·.map (endOf i))).flatten ++ X)) = T := by have := hj2; rw [drop_at hst, List.map_cons, List.flatten_cons, List.append_assoc] at this; exact this
      refine Exists.elim (show ∃ Y, Y = ((C.drop (j + 1)).map (·.map (endOf i))).flatten ++ X from ⟨_, rfl⟩) fun Y hY => ?_
      rw [← hY] at h2
      (repeat refine A.s rfl ?_)
      refine A.x rfl (by show (0 : Int) ≤ (j : Nat); omega) (map_at hst) rfl rfl ?_
      (repeat refine A.s rfl ?_)
      refine A.valE 52 rfl (x' := AI (st.length : Nat)) (ai_eq (by rw [encRl_len])) ?_
      refine A.nilTail 12 ty3.size rfl ?_
      refine A.keep [1, 2, 6, 7, 9, 12, 36, 37, 38, 45, 46, 47, 51, 52, 53] rfl ?_
      refine A.loopP (ι := Nat × (Value × (List EN × (Nat → Value)))) (fun s => (⟨[(1, .v (.pointer (some ⟨b1, 0, none⟩))), (2, .v (.pointer (some ⟨b2, 0, none⟩))), (6, .v (.pointer (some ⟨b6, 0, none⟩))), (7, AI (i : Nat)), (9, .sl 1 ((C.take j).map fun t => rowI (t.map (·.c))) (some z9)), (12, .sl 1 ((st.take s.1).map fun x => AI x.c) (some s.2.1)), (36, rsA q.l), (37, AI (q.l.length : Nat)), (38, AI (i : Nat)), (45, stepsA C), (46, AI (C.length : Nat)), (47, AI (j : Nat)), (51, rsA st), (52, AI (st.length : Nat)), (53, AI (s.1 : Nat))], []⟩, .tail ty3.size s.2.1 :: .tail ty28.size z9 :: .tail ty27.size zp :: .box b2 (.ag [AI (k.chans.length : Nat), .sl 1 ((q.l.take i).map fun p => procA (procC k p)) (some zp)]) :: .box b6 (.ag (usrL s.2.2.1 s.2.2.2)) :: .box b1 (encN k) :: tailsL s.2.2.2))
        (fun s => s.1 ≤ st.length ∧ s.2.2.1 ++ ((st.drop s.1).map (endOf i) ++ Y) = T) (fun s => st.length - s.1) (0, (.slice none 0 0, (E1, z1))) ⟨Nat.zero_le _, h2⟩ rfl fun s hk kh => ?_
      obtain ⟨t, z12, E2, z2⟩ := s
      obtain ⟨hk1, hk2⟩ := hk
      simp only at hk1 hk2
      (repeat refine A.s rfl ?_)
      refine A.cond rfl (fun hc => ?_) (fun hc => ?_)
      · have hc : t < st.length := by simpa using hc
        refine Exists.elim (at_exN (l := st) (i := t) hc) fun x hx => ?_
        have hxm := hsx x (List.mem_of_getElem? hx)
        refine Exists.elim (nat_of (x := x.c) ⟨hxm.2.1, by omega⟩) fun cn hcn => ?_
        have h3 : (E2 ++ [endOf i x]) ++ ((st.drop (t + 1)).map (endOf i) ++ Y) = T := by have := hk2; rw [drop_at hx, List.map_cons] at this; rw [List.append_assoc]; exact this
        have hE2 : (onC E2 cn).length ≤ 524288 := by
          have a1 := onC_le E2 cn
          have a2 := congrArg List.length hk2
          rw [List.length_append] at a2
          omega
        have htk : st.take (t + 1) = st.take t ++ [x] := by rw [List.take_add_one, hx]; rfl
        (repeat refine A.s rfl ?_)
        refine A.x rfl (by show (0 : Int) ≤ (t : Nat); omega) (encRl_at hx) (encR_eq x) rfl ?_
        (repeat first|refine A.s rfl ?_|refine A.r rfl rfl ?_|refine A.w rfl rfl ?_|refine A.b rfl fun bx=>?_|refine A.t rfl fun bl=>?_)
        refine A.append rfl rfl rfl rfl rfl rfl rfl rfl rfl rfl rfl rfl rfl rfl (by show (((st.take t).map fun x => AI x.c).length + 1) * 1 ≤ _; rw [List.length_map, List.length_take]; omega) fun z12' => ?_
        (repeat refine A.s rfl ?_)
        refine A.valE 12 rfl (x' := .sl 1 ((st.take (t + 1)).map fun x => AI x.c) (some z12')) (by rw [htk]; simp only [List.map_append, List.map_cons, List.map_nil]; rfl) ?_
        refine A.perm (Λ' := .tail 3 (z2 cn) :: .tail _ z12' :: .box _ _ :: .tail _ z9 :: .tail _ zp :: .box b2 _ :: .box b6 _ :: .box b1 _ :: tailsX z2 cn) (tails_out z2 hcn.1 [_, _, _, _, _, _, _]) ?_
        refine A.drawT 14 3 (z2 cn) 15 [0, 1, 2, 3, 4, 5, 6, 7, 8, 9, 10, 11, 12, 13, 14] (fun i => if i = 14 then [13] else []) [] (by decide) rfl (by kernel_rfl) ?_
        (repeat first|refine WA.s rfl ?_|refine WA.r rfl rfl ?_)
        refine WA.valE 65 rfl (x' := AI (cn : Nat)) (ai_eq hcn.2) ?_
        refine WA.xa rfl (p := cn) (by omega) (by omega) (off1 cn) rfl ?_
        refine WA.ra rfl (range_at (usrF E2 z2) hcn.1) rfl ?_
        refine WA.valE 67 rfl (x' := .sl 3 ((onC E2 cn).map userA) (some (z2 cn))) rfl ?_
        (repeat first|refine WA.s rfl ?_|refine WA.r rfl rfl ?_)
        refine WA.lit rfl rfl rfl rfl rfl rfl rfl fun bw => ?_
        refine WA.append rfl rfl rfl rfl rfl rfl rfl rfl rfl rfl rfl rfl rfl rfl rfl rfl rfl rfl (.pub (j := 13) rfl rfl (.sub .refl)) (by show (((onC E2 cn).map userA).length + 1) * 3 ≤ _; rw [List.length_map]; omega) fun z' => ?_
        refine WA.nil (l := [.tail 3 z']) rfl ?_
        refine A.valE 63 rfl (x' := AI (cn : Nat)) (ai_eq hcn.2) ?_
        refine A.xa rfl (p := cn) (by omega) (by omega) (off1 cn) rfl ?_
        refine A.wa rfl rfl (by rw [usrL, arr_len]; exact hcn.1) (usr_set E2 z2 (endOf i x) cn hcn.2 z') ?_
        refine A.perm (Λ' := .tail _ z12' :: .box _ _ :: .tail _ z9 :: .tail _ zp :: .box b2 _ :: .box b6 _ :: .box b1 _ :: tailsL (upd z2 cn z')) (tails_in z2 hcn.1 z' [_, _, _, _, _, _, _]) ?_
        refine A.less (.cons_cons _ (.cons _ (.refl _))) ?_
        (repeat refine A.s rfl ?_)
        refine A.valE 53 rfl (x' := AI ((t + 1 : Nat) : Int)) (inc_eq t (by omega)) ?_
        refine A.sub (by repeat (first | exact trivial | refine ⟨⟨_, rfl, .refl⟩, ?_⟩)) (kh (t + 1, (z12', (E2 ++ [endOf i x], upd z2 cn z'))) ⟨by show t + 1 ≤ _; omega, h3⟩ (by show _ - (t + 1) < _ - t; omega))
      have hc : ¬ t < st.length := by simpa using hc
      have htl : t = st.length := by omega
      have h3 : E2 ++ Y = T := by have := hk2; rw [htl, List.drop_length] at this; exact this
      have htk : C.take (j + 1) = C.take j ++ [st] := by rw [List.take_add_one, hst]; rfl
      refine A.val 12 rfl .own1 ?_
      refine A.valE 12 rfl (x' := rowI (st.map (·.c))) (by rw [htl, List.take_length]; show _ = AV.sl 1 ((st.map (·.c)).map AI) none; rw [List.map_map]; rfl) ?_
      (repeat first|refine A.s rfl ?_|refine A.t rfl fun bl=>?_)
      refine A.append rfl rfl rfl rfl rfl rfl rfl rfl rfl rfl rfl rfl rfl rfl (by show (((C.take j).map fun t => rowI (t.map (·.c))).length + 1) * 1 ≤ _; rw [List.length_map, List.length_take]; omega) fun z9' => ?_
      (repeat refine A.s rfl ?_)
      refine A.valE 9 rfl (x' := .sl 1 ((C.take (j + 1)).map fun t => rowI (t.map (·.c))) (some z9')) (by rw [htk]; simp only [List.map_append, List.map_cons, List.map_nil]; rfl) ?_
      refine A.less (.cons_cons _ (.cons _ (.refl _))) ?_
      refine A.valE 47 rfl (x' := AI ((j + 1 : Nat) : Int)) (inc_eq j (by omega)) ?_
      refine A.sub (by repeat (first | exact trivial | refine ⟨⟨_, rfl, .refl⟩, ?_⟩)) (jh (j + 1, (z9', (E2, z2))) ⟨by show j + 1 ≤ _; omega, by show E2 ++ (((C.drop (j + 1)).map (·.map (endOf i))).flatten ++ X) = T; rw [← hY]; exact h3⟩ (by show _ - (j + 1) < _ - j; omega))
    have hc : ¬ j < C.length := by simpa using hc
    have hjl : j = C.length := by omega
    have h2 : E1 ++ X = T := by have := hj2; rw [hjl, List.drop_length] at this; exact this
    have htk : q.l.take (i + 1) = q.l.take i ++ [p] := by rw [List.take_add_one, hp]; rfl
    refine A.val 9 rfl .own1 ?_
    refine A.valE 9 rfl (x' := procA (procC k p)) (by rw [hjl, List.take_length, hCp]; show _ = AV.sl 1 ((C.map (·.map (·.c))).map rowI) none; rw [List.map_map]; rfl) ?_
    (repeat first|refine A.s rfl ?_|refine A.r rfl rfl ?_|refine A.t rfl fun bl=>?_)
    refine A.append rfl rfl rfl rfl rfl rfl rfl rfl rfl rfl rfl rfl rfl rfl (by show (((q.l.take i).map fun p => procA (procC k p)).length + 1) * 1 ≤ _; rw [List.length_map, List.length_take]; omega) fun zp' => ?_
    refine A.valE 88 rfl (x' := .sl 1 ((q.l.take (i + 1)).map fun p => procA (procC k p)) (some zp')) (by rw [htk]; simp only [List.map_append, List.map_cons, List.map_nil]; rfl) ?_
    (repeat first|refine A.s rfl ?_|refine A.w rfl rfl ?_)
    refine A.less (.cons_cons _ (.cons _ (.refl _))) ?_
    refine A.valE 38 rfl (x' := AI ((i + 1 : Nat) : Int)) (inc_eq i (by omega)) ?_
    refine A.sub (by repeat (first | exact trivial | refine ⟨⟨_, rfl, .refl⟩, ?_⟩)) (ih (i + 1, (E1, (z1, zp'))) ⟨by show i + 1 ≤ _; omega, by show E1 ++ restE k (i + 1) (q.l.drop (i + 1)) = T; rw [← hX]; exact h2⟩ (by show _ - (i + 1) < _ - i; omega))
  have hc : ¬ i < q.l.length := by simpa using hc
  have hil : i = q.l.length := by omega
  have hET : E = T := by have := hi2; rw [hil, List.drop_length, restE, List.append_nil] at this; exact this
  refine A.entsEq (Λ' := .tail ty27.size zp :: .box b2 (.ag [AI (k.chans.length : Nat), .sl 1 ((netC k q).map procA) (some zp)]) :: .box b6 (.ag (usrL T z)) :: .box b1 (encN k) :: tailsL z) (by rw [hil, List.take_length, hnet, hET]) ?_
  (repeat refine A.s rfl ?_)
  refine A.la rfl (by rw [usrL, arr_len]; rfl) rfl ?_
  (repeat refine A.s rfl ?_)
  refine A.keep [2, 91, 92] rfl ?_
  refine A.less (Λ' := [.box b2 (.ag [AI (k.chans.length : Nat), .sl 1 ((netC k q).map procA) (some zp)])]) (.cons _ (.cons_cons _ (List.nil_sublist _))) ?_
  refine A.loopP (ι := Nat) (fun c => (⟨[(2, .v (.pointer (some ⟨b2, 0, none⟩))), (91, .ag (usrL T z)), (92, AI (c : Nat))], []⟩, [.box b2 (.ag [AI (k.chans.length : Nat), .sl 1 ((netC k q).map procA) (some zp)])]))
    (fun c => c ≤ 64 ∧ ∀ d, d < c → pairOk (onC T d) = true) (fun c => 64 - c) 0 ⟨Nat.zero_le _, fun d hd => by omega⟩ rfl fun c hc64 ch => ?_
  obtain ⟨hc1, hc2⟩ := hc64
  (repeat refine A.s rfl ?_)
  refine A.cond rfl (fun hc => ?_) (fun hc => ?_)
  · have hc : c < 64 := by have := hc; simp at this; omega
    have hno : pairOk (onC T c) = false → R = classR k.chans.length (netC k q) false := fun h => hbad (by
      cases hp : pairsB T with
      | false => rfl
      | true =>
        rw [pairsB, List.all_eq_true] at hp
        rw [hp c (List.mem_range.2 hc)] at h; cases h)
    have hyes : pairOk (onC T c) = true → ∀ d, d < c + 1 → pairOk (onC T d) = true := fun h d hd => by
      by_cases e : d = c
      · subst e; exact h
      · exact hc2 d (by omega)
    (repeat refine A.s rfl ?_)
    refine A.ev (m := 64) rfl (by show (0 : Int) ≤ (c : Nat); omega) (by omega) (y := .sl 3 ((onC T c).map userA) (some (z c))) (by show (usrL T z)[(c : Int).toNat * 1]? = _; rw [Nat.mul_one, Int.toNat_natCast]; exact range_at (usrF T z) hc) rfl ?_
    (repeat refine A.s rfl ?_)
    refine Exists.elim (show ∃ u, u = onC T c from ⟨_, rfl⟩) fun u hu => ?_
    rw [← hu] at hno hyes
    refine A.valE 16 rfl (x' := .sl 3 (u.map userA) (some (z c))) (by rw [hu]) ?_
    refine A.keep [2, 16, 91, 92] rfl ?_
    refine Or.elim (shapeU u) (fun h => ?_) (fun h => Or.elim h (fun h => ?_) (fun h => ?_))
    · have hy := hyes (by rw [h]; rfl)
      refine A.valE 16 rfl (x' := .sl 3 [] (some (z c))) (by rw [h]; rfl) ?_
      refine A.draw 38 [0, 1, 2, 3, 4, 5, 6, 7, 8, 9, 10, 11, 12, 13, 14, 15, 16, 17, 18, 19, 20, 21, 22, 23, 24, 25, 26, 27, 28, 29, 30, 31, 32, 33, 34, 35, 36, 37] noPubs [] (by kernel_rfl) (by kernel_rfl) ?_
      (repeat refine WA.s rfl ?_)
      refine WA.valE 98 rfl (x' := AB false) (ab_eq rfl) ?_
      skip
      refine WA.nil (l := []) rfl ?_
      (repeat refine A.s rfl ?_)
      refine A.valE 92 rfl (x' := AI ((c + 1 : Nat) : Int)) (inc_eq c (by omega)) ?_
      refine A.sub (by repeat (first | exact trivial | refine ⟨⟨_, rfl, .refl⟩, ?_⟩)) (ch (c + 1) ⟨by omega, hy⟩ (by omega))
    · refine Exists.elim h fun x h => Exists.elim h fun y h => ?_
      refine A.valE 16 rfl (x' := .sl 3 [userA x, userA y] (some (z c))) (by rw [h]; rfl) ?_
      refine A.draw 38 [0, 1, 2, 3, 4, 5, 6, 7, 8, 9, 10, 11, 12, 13, 14, 15, 16, 17, 18, 19, 20, 21, 22, 23, 24, 25, 26, 27, 28, 29, 30, 31, 32, 33, 34, 35, 36, 37] noPubs [] (by kernel_rfl) (by kernel_rfl) ?_
      (repeat refine WA.s rfl ?_)
      refine WA.valE 98 rfl (x' := AB true) (ab_eq rfl) ?_
      skip
      refine WA.valE 102 rfl (x' := AB false) (ab_eq rfl) ?_
      skip
      refine WA.x rfl (by decide) rfl rfl rfl ?_
      (repeat refine WA.s rfl ?_)
      refine WA.x rfl (by decide) rfl rfl rfl ?_
      (repeat refine WA.s rfl ?_)
      refine WA.gS rfl (fun hb => ?_) (fun hb => ?_)
      · have hb : (x.b == y.b) = true := hb
        rw [hno (by rw [h]; show fitE x y = false; rw [fitE, bne, hb]; rfl)]
        (repeat refine WA.s rfl ?_)
        refine WA.nil (l := []) rfl ?_
        (repeat first|refine A.s rfl ?_|refine A.w rfl rfl ?_); refine A.retN (Λ' := []) rfl rfl (ResA.cell rfl rfl rfl (ResA.tmp rfl ResA.nil)) (List.nil_sublist _) ⟨?_, rfl⟩; exact Sb.tp (.cons (.ag (.cons .refl (.cons .nil .refl))) .refl)
      have hb : (x.b == y.b) = false := hb
      (repeat refine WA.s rfl ?_)
      refine WA.x rfl (by decide) rfl rfl rfl ?_
      (repeat refine WA.s rfl ?_)
      refine WA.x rfl (by decide) rfl rfl rfl ?_
      (repeat refine WA.s rfl ?_)
      refine WA.gS rfl (fun ho => ?_) (fun ho => ?_)
      · have ho : (x.out == y.out) = true := ho
        rw [hno (by rw [h]; show fitE x y = false; rw [fitE, bne, bne, hb, ho]; rfl)]
        (repeat refine WA.s rfl ?_)
        refine WA.nil (l := []) rfl ?_
        (repeat first|refine A.s rfl ?_|refine A.w rfl rfl ?_); refine A.retN (Λ' := []) rfl rfl (ResA.cell rfl rfl rfl (ResA.tmp rfl ResA.nil)) (List.nil_sublist _) ⟨?_, rfl⟩; exact Sb.tp (.cons (.ag (.cons .refl (.cons .nil .refl))) .refl)
      have ho : (x.out == y.out) = false := ho
      (repeat refine WA.s rfl ?_)
      refine WA.x rfl (by decide) rfl rfl rfl ?_
      (repeat refine WA.s rfl ?_)
      refine WA.x rfl (by decide) rfl rfl rfl ?_
      (repeat refine WA.s rfl ?_)
      refine WA.nil (l := []) rfl ?_
      (repeat refine A.s rfl ?_)
      refine A.cond rfl (fun hc => ?_) (fun hc => ?_)
      · have hit : (!(x.item == y.item)) = true := hc
        rw [hno (by rw [h]; show fitE x y = false; rw [fitE, show (x.item == y.item) = false by simpa using hit]; simp)]
        (repeat first|refine A.s rfl ?_|refine A.w rfl rfl ?_); refine A.retN (Λ' := []) rfl rfl (ResA.cell rfl rfl rfl (ResA.tmp rfl ResA.nil)) (List.nil_sublist _) ⟨?_, rfl⟩; exact Sb.tp (.cons (.ag (.cons .refl (.cons .nil .refl))) .refl)
      have hit : (!(x.item == y.item)) = false := hc
      have hy := hyes (by rw [h]; show fitE x y = true; rw [fitE, bne, bne, hb, ho, show (x.item == y.item) = true by simpa using hit]; rfl)
      (repeat refine A.s rfl ?_)
      refine A.valE 92 rfl (x' := AI ((c + 1 : Nat) : Int)) (inc_eq c (by omega)) ?_
      refine A.sub (by repeat (first | exact trivial | refine ⟨⟨_, rfl, .refl⟩, ?_⟩)) (ch (c + 1) ⟨by omega, hy⟩ (by omega))
    · rw [hno (pairOk_long h.1 h.2)]
      refine A.draw 38 [0, 1, 2, 3, 4, 5, 6, 7, 8, 9, 10, 11, 12, 13, 14, 15, 16, 17, 18, 19, 20, 21, 22, 23, 24, 25, 26, 27, 28, 29, 30, 31, 32, 33, 34, 35, 36, 37] noPubs [] (by kernel_rfl) (by kernel_rfl) ?_
      (repeat refine WA.s rfl ?_)
      refine WA.valE 98 rfl (x' := AB true) (ab_eq (by rw [List.length_map]; show (!((u.length : Int) == 0)) = true; rw [beq_eq_false_iff_ne.2 (show (u.length : Int) ≠ 0 by have := h.1; omega)]; rfl)) ?_
      (repeat refine WA.s rfl ?_)
      refine WA.valE 102 rfl (x' := AB true) (ab_eq (by rw [List.length_map]; show (!((u.length : Int) == 2)) = true; rw [beq_eq_false_iff_ne.2 (show (u.length : Int) ≠ 2 by have := h.2; omega)]; rfl)) ?_
      (repeat refine WA.s rfl ?_)
      refine WA.nil (l := []) rfl ?_
      (repeat first|refine A.s rfl ?_|refine A.w rfl rfl ?_); refine A.retN (Λ' := []) rfl rfl (ResA.cell rfl rfl rfl (ResA.tmp rfl ResA.nil)) (List.nil_sublist _) ⟨?_, rfl⟩; exact Sb.tp (.cons (.ag (.cons .refl (.cons .nil .refl))) .refl)
  have hc : ¬ c < 64 := by have := hc; simp at this; omega
  rw [hgood (by rw [pairsB, List.all_eq_true]; intro d hd; exact hc2 d (by have := List.mem_range.1 hd; omega))]
  (repeat first|refine A.s rfl ?_|refine A.r rfl rfl ?_)
  refine A.c rfl hcm (.cons (.ag (.cons .refl (.cons .own1 .refl))) .refl) ?_
  (repeat refine A.s rfl ?_)
  cases hb : nmayB k.chans.length (netC k q) with
  | false => (repeat first|refine A.s rfl ?_|refine A.w rfl rfl ?_); refine A.retN (Λ' := []) rfl rfl (ResA.cell rfl rfl rfl (ResA.tmp rfl ResA.nil)) (List.nil_sublist _) ⟨?_, rfl⟩; exact Sb.tp (.cons (.ag (.cons .refl (.cons .nil .refl))) .refl)
  | true =>
    (repeat first|refine A.s rfl ?_|refine A.r rfl rfl ?_|refine A.w rfl rfl ?_); refine A.retN (Λ' := []) rfl rfl (ResA.cell rfl rfl rfl (ResA.tmp rfl ResA.nil)) (List.nil_sublist _) ⟨?_, rfl⟩; exact Sb.tp (.cons (.ag (.cons .refl (.cons .own1 .refl))) .refl)
theorem class_p (k : KN) (hw : WfN k) : Pure Tryd.prog gsQ 7 [encN k] (classR k.chans.length (netC k (lastR k.root)) (mayK k && (lastR k.root).kind == 10 && classB k (lastR k.root))) := by
  have hmay := (kmay_p k hw).any (gs := gsQ)
  have hlast := (last_p k.root 10 (wfR_all hw.root).ll).any (gs := gsQ)
  cases hm : mayK k with
  | false =>
    rw [hm] at hmay
    rw [Bool.false_and, Bool.false_and]
    exact class_no k _ false _ rfl hlast hmay
  | true =>
    rw [hm] at hmay
    rw [Bool.true_and]
    cases ht : ((lastR k.root).kind == 10) with
    | false =>
      rw [ht] at hlast
      exact class_no k _ true false rfl hlast hmay
    | true =>
      rw [ht] at hlast
      rw [Bool.true_and]
      have hg := good_root hw hm
      refine class_yes k _ hg.1.last (by simpa using ht) hg.2 hlast hmay _ rfl
end Go.Proofs.YtgmeahcclogfmaaDoor
/-!
  Chapter 23: the plain law of ranks: what the rounds compute, and that there is nothing else.
-/
namespace Go.Proofs.YtgmeahcclogfmaaDoor
open Go Go.Tp
set_option linter.unusedVariables false
set_option linter.unusedSimpArgs false
abbrev Rk := Nat → Int
def rdy (s : Nat → W64) (done : W64) (x : Nat) : Bool := !(done.getLsbD x || (s x &&& ~~~done) != 0)
def rkD (s : Nat → W64) (x : Nat) (rk : Rk) (d : Nat) : Rk := if (s x).getLsbD d then upd rk x (max (rk x) (w64 (rk d + 1))) else rk
abbrev RkS := Rk × W64 × Int
def rkX (s : Nat → W64) (n : Nat) (done : W64) (st : RkS) (x : Nat) : RkS :=
  if rdy s done x then ((List.range n).foldl (rkD s x) st.1, st.2.1 ||| bitW x, st.2.2 - 1) else st
def rkXs (s : Nat → W64) (n : Nat) (done : W64) (rk : Rk) (left : Int) (m : Nat) : RkS := (List.range m).foldl (rkX s n done) (rk, 0, left)
def kahnR (s : Nat → W64) (n : Nat) : Nat → Rk → W64 → Int → Option Rk
  | 0, rk, _, _ => some rk
  | f + 1, rk, done, left => if left ≤ 0 then some rk else
    if (rkXs s n done rk left n).2.2 = left then none else
      kahnR s n f (rkXs s n done rk left n).1 (done ||| (rkXs s n done rk left n).2.1) (rkXs s n done rk left n).2.2
def kahn (s : Nat → W64) (n : Nat) : Option Rk := kahnR s n n (fun _ => 0) 0 n
theorem rkXs_zero (s : Nat → W64) (n : Nat) (done : W64) (rk : Rk) (left : Int) : rkXs s n done rk left 0 = (rk, 0, left) := rfl
theorem rkXs_succ (s : Nat → W64) (n : Nat) (done : W64) (rk : Rk) (left : Int) (m : Nat) : rkXs s n done rk left (m + 1) = rkX s n done (rkXs s n done rk left m) m := by
  rw [rkXs, List.range_succ, List.foldl_append]; rfl
theorem rkXs_left (s : Nat → W64) (n : Nat) (done : W64) (rk : Rk) (left : Int) (m : Nat) : left - m ≤ (rkXs s n done rk left m).2.2 ∧ (rkXs s n done rk left m).2.2 ≤ left := by
  induction m with
  | zero => rw [rkXs_zero]; simp
  | succ m ih =>
    rw [rkXs_succ, rkX]
    split
    · simp only; omega
    · omega
/-! ### folds -/
def mxF (q : Nat → Bool) (v : Nat → Int) (l : List Nat) (a : Int) : Int := l.foldl (fun u d => if q d then max u (v d) else u) a
/-! ### one round -/
def newR (s : Nat → W64) (n : Nat) (rk : Rk) (y : Nat) : Int := mxF (fun d => (s y).getLsbD d) (fun d => w64 (rk d + 1)) (List.range n) (rk y)
/-! ### all rounds -/
structure KI (s : Nat → W64) (n : Nat) (rk : Rk) (done : W64) (left : Int) (r : Int) : Prop where
  dn : ∀ x, done.getLsbD x = true → x < n ∧ 0 ≤ rk x ∧ rk x < r ∧ (∀ d, (s x).getLsbD d = true → done.getLsbD d = true ∧ rk d < rk x) ∧ (rk x = 0 ∨ ∃ d, (s x).getLsbD d = true ∧ rk x = rk d + 1)
  un : ∀ x, done.getLsbD x = false → rk x = 0
  lf : left = ((List.range n).countP fun x => !done.getLsbD x : Nat)
  r0 : 0 ≤ r
  rr : r + left ≤ n
def Rise (s : Nat → W64) (n : Nat) (g : Nat → Int) : Prop := ∀ d x, d < n → x < n → (s x).getLsbD d = true → g d < g x
structure IsRank (s : Nat → W64) (n : Nat) (rk : Rk) : Prop where
  lo : ∀ x, x < n → 0 ≤ rk x ∧ rk x < n
  up : Rise s n rk
  by1 : ∀ x, x < n → rk x = 0 ∨ ∃ d, d < n ∧ (s x).getLsbD d = true ∧ rk x = rk d + 1
end Go.Proofs.YtgmeahcclogfmaaDoor
/-!
  Chapter 23: the plain law of ways along preceding channels, and of the waiting cycle.
-/
namespace Go.Proofs.YtgmeahcclogfmaaDoor
open Go Go.Tp
set_option linter.unusedVariables false
set_option linter.unusedSimpArgs false
inductive Way (s : Nat → W64) (to : Nat) : Nat → Nat → Prop
  | one {x : Nat} : (s x).getLsbD to = true → Way s to x 1
  | more {x y k : Nat} : (s x).getLsbD y = true → Way s to y k → Way s to x (k + 1)
theorem Way.pos {s : Nat → W64} {to x k : Nat} (h : Way s to x k) : 1 ≤ k := by cases h <;> omega
structure Least (s : Nat → W64) (to x k : Nat) : Prop where
  way : Way s to x k
  le : ∀ m, Way s to x m → k ≤ m
def Fr (s : Nat → W64) (to k y : Nat) : Prop := (k = 1 ∧ y = to) ∨ (2 ≤ k ∧ Least s to y (k - 1))
structure FI (s : Nat → W64) (to : Nat) (n : Nat → Int) (w : W64) (k : Nat) : Prop where
  zero : ∀ x, x < 64 → n x = 0 → ∀ m, Way s to x m → k ≤ m
  some : ∀ x, x < 64 → n x ≠ 0 → ∃ m : Nat, n x = m ∧ Least s to x m ∧ m < k
  fr : ∀ y, y < 64 → (w.getLsbD y = true ↔ Fr s to k y)
  k1 : 1 ≤ k
theorem and_ne {a b : W64} : a &&& b ≠ 0 ↔ ∃ y, a.getLsbD y = true ∧ b.getLsbD y = true := by
  rw [Ne, bv_zero]
  constructor
  · intro h
    apply Classical.byContradiction
    intro hn
    apply h
    intro x hx
    rw [BitVec.getLsbD_and]
    cases h1 : a.getLsbD x
    · rfl
    · cases h2 : b.getLsbD x
      · rfl
      · exact (hn ⟨x, h1, h2⟩).elim
  · rintro ⟨y, h1, h2⟩ h
    have := h y (BitVec.lt_of_getLsbD h1)
    rw [BitVec.getLsbD_and, h1, h2] at this
    cases this
theorem newB_iff {s : Nat → W64} {w : W64} {n : Nat → Int} {x : Nat} : newB s w n x = true ↔ n x = 0 ∧ ∃ y, (s x).getLsbD y = true ∧ w.getLsbD y = true := by
  unfold newB
  rw [Bool.and_eq_true, beq_iff_eq, bne_iff_ne, and_ne]
theorem FI.start {s : Nat → W64} {to : Nat} (ht : to < 64) : FI s to (fun _ => 0) (bitW to) 1 where
  zero := fun x hx _ m hm => hm.pos
  some := fun x hx h => (h rfl).elim
  fr := fun y hy => by
    rw [bitW_get _ _ ht, decide_eq_true_iff]
    constructor
    · intro h; exact .inl ⟨rfl, h⟩
    · rintro (h | h)
      · exact h.2
      · omega
  k1 := Nat.le_refl _
theorem FI.new {s : Nat → W64} {to : Nat} {n : Nat → Int} {w : W64} {k : Nat} (I : FI s to n w k) {x : Nat} (hx : x < 64) (h : newB s w n x = true) : n x = 0 ∧ Least s to x k := by
  obtain ⟨h0, y, h1, h2⟩ := newB_iff.1 h
  have hy := BitVec.lt_of_getLsbD h1
  refine ⟨h0, ?_, I.zero x hx h0⟩
  rcases (I.fr y hy).1 h2 with ⟨rfl, rfl⟩ | ⟨hk, hl⟩
  · exact .one h1
  · have := Way.more h1 hl.way
    rw [show k - 1 + 1 = k by omega] at this
    exact this
theorem FI.not {s : Nat → W64} {to : Nat} {n : Nat → Int} {w : W64} {k : Nat} (ht : to < 64) (I : FI s to n w k) {x : Nat} (hx : x < 64) (h0 : n x = 0) (h : newB s w n x = false) {m : Nat} (hm : Way s to x m) : k + 1 ≤ m := by
  have hk := I.zero x hx h0 m hm
  apply Classical.byContradiction
  intro hn
  have hmk : m = k := by omega
  subst hmk
  have hnew : newB s w n x = true := by
    rw [newB_iff]
    refine ⟨h0, ?_⟩
    cases hm with
    | one h1 => exact ⟨to, h1, (I.fr to ht).2 (.inl ⟨rfl, rfl⟩)⟩
    | @more _ y k' h1 h2 =>
      have hy := BitVec.lt_of_getLsbD h1
      refine ⟨y, h1, (I.fr y hy).2 (.inr ⟨by have := h2.pos; omega, ?_⟩)⟩
      by_cases hny : n y = 0
      · have := I.zero y hy hny _ h2; omega
      · obtain ⟨m', e, l, hlt⟩ := I.some y hy hny
        have h3 := l.le _ h2
        have h4 := I.zero x hx h0 _ (Way.more h1 l.way)
        have : m' = k' := by omega
        subst this
        exact l
  rw [h] at hnew
  cases hnew
theorem FI.round {s : Nat → W64} {to : Nat} {n : Nat → Int} {w : W64} {k : Nat} (ht : to < 64) (I : FI s to n w k) : FI s to (cutU (newB s w n) (k : Nat) n 64) (orB (newB s w n) 64) (k + 1) := by
  have hk1 := I.k1
  have hcut : ∀ x, x < 64 → cutU (newB s w n) (k : Nat) n 64 x = if newB s w n x = true then (k : Int) else n x := fun x hx => by
    simp only [cutU, hx, decide_true, Bool.true_and]
  refine ⟨fun x hx h0 m hm => ?_, fun x hx hne => ?_, fun y hy => ?_, by omega⟩
  · rw [hcut x hx] at h0
    split at h0
    · omega
    · rename_i hb
      exact I.not ht hx h0 (by simpa using hb) hm
  · rw [hcut x hx] at hne ⊢
    split
    · rename_i hb
      exact ⟨k, rfl, (I.new hx hb).2, by omega⟩
    · rename_i hb
      rw [if_neg hb] at hne
      obtain ⟨m, e, l, hlt⟩ := I.some x hx hne
      exact ⟨m, e, l, by omega⟩
  · rw [orB_get _ 64 (Nat.le_refl _)]
    simp only [hy, decide_true, Bool.true_and]
    constructor
    · intro hb
      exact .inr ⟨by omega, by rw [Nat.add_sub_cancel]; exact (I.new hy hb).2⟩
    · rintro (⟨h, _⟩ | ⟨_, l⟩)
      · omega
      · rw [Nat.add_sub_cancel] at l
        cases hb : newB s w n y with
        | true => rfl
        | false =>
          by_cases hny : n y = 0
          · have := I.not ht hy hny hb l.way; omega
          · obtain ⟨m, e, l', hlt⟩ := I.some y hy hny
            have := l'.le _ l.way
            have := l.le _ l'.way
            omega
theorem FI.fin {s : Nat → W64} {to : Nat} {n : Nat → Int} {k : Nat} (ht : to < 64) (I : FI s to n 0 k) : ∀ m x, x < 64 → Way s to x m → n x ≠ 0 := by
  intro m
  induction m with
  | zero => intro x hx hw; have := hw.pos; omega
  | succ m ih =>
    intro x hx hw h0
    have hk := I.zero x hx h0 _ hw
    have hb : newB s 0 n x = false := by simp [newB]
    have hk2 := I.not ht hx h0 hb hw
    have hk1 := I.k1
    cases hw with
    | one h1 => omega
    | @more _ y _ h1 h2 =>
      have hy := BitVec.lt_of_getLsbD h1
      obtain ⟨m', e, l, hlt⟩ := I.some y hy (ih y hy h2)
      have h4 := I.not ht hx h0 hb (Way.more h1 l.way)
      omega
def DistV (s : Nat → W64) (to x : Nat) (v : Int) : Prop := (v = 0 ∧ ∀ m, ¬ Way s to x m) ∨ ∃ m : Nat, v = m ∧ Least s to x m ∧ m ≤ 66
theorem farR_spec {s : Nat → W64} {to : Nat} (ht : to < 64) : ∀ (f : Nat) (n : Nat → Int) (w : W64) (k : Nat), FI s to n w k → (w ≠ 0 → zeros n + 1 ≤ f) → f + k = 67 → ∀ x, x < 64 → DistV s to x (farR s f n w (k : Nat) x)
  | f, n, w, k, I, hz, hf, x, hx => by
    by_cases hw : w = 0
    · subst hw
      rw [farR_zero]
      by_cases h0 : n x = 0
      · exact .inl ⟨h0, fun m hm => I.fin ht m x hx hm h0⟩
      · obtain ⟨m, e, l, hlt⟩ := I.some x hx h0
        exact .inr ⟨m, e, l, by omega⟩
    · match f, hz hw with
      | f + 1, hz1 =>
        rw [farR, if_neg hw]
        have hk1 := I.k1
        have := farR_spec ht f _ _ (k + 1) (I.round ht) (fun h => by have := zeros_lt (k := (k : Int)) (by omega) h; omega) (by omega) x hx
        exact this
theorem far_spec {s : Nat → W64} {to : Nat} (ht : to < 64) {x : Nat} (hx : x < 64) : DistV s to x (farF s to x) := by
  have := farR_spec (s := s) ht 66 (fun _ => 0) (bitW to) 1 (FI.start ht) (fun _ => by have := zeros_le fun _ => 0; omega) rfl x hx
  exact this
/-! ### the waiting cycle -/
def bestS (s : Nat → W64) (st : Int × Int) (x : Nat) : Int × Int := if 0 < farF s x x ∧ (st.2 = 0 ∨ farF s x x < st.2) then ((x : Int), farF s x x) else st
def bestF (s : Nat → W64) (m : Nat) : Int × Int := (List.range m).foldl (bestS s) (-1, 0)
theorem bestF_succ (s : Nat → W64) (m : Nat) : bestF s (m + 1) = bestS s (bestF s m) m := by
  rw [bestF, List.range_succ, List.foldl_append]; rfl
structure Best (s : Nat → W64) (n f : Nat) (b : Int) : Prop where
  lt : f < n
  eq : farF s f f = b
  pos : 0 < b
  le : ∀ x, x < n → 0 < farF s x x → b ≤ farF s x x ∧ (farF s x x = b → f ≤ x)
theorem bestF_spec (s : Nat → W64) (m : Nat) : (bestF s m = (-1, 0) ∧ ∀ x, x < m → ¬ 0 < farF s x x) ∨ ∃ f : Nat, (bestF s m).1 = f ∧ Best s m f (bestF s m).2 := by
  induction m with
  | zero => exact .inl ⟨rfl, fun x hx => by omega⟩
  | succ m ih =>
    rw [bestF_succ, bestS]
    rcases ih with ⟨h1, h2⟩ | ⟨f, h1, h2⟩
    · rw [h1]
      by_cases hp : 0 < farF s m m
      · rw [if_pos ⟨hp, .inl rfl⟩]
        refine .inr ⟨m, rfl, by omega, rfl, hp, fun x hx hx0 => ?_⟩
        by_cases hxm : x = m
        · subst hxm; exact ⟨Int.le_refl _, fun _ => Nat.le_refl _⟩
        · exact (h2 x (by omega) hx0).elim
      · rw [if_neg (fun h => hp h.1)]
        refine .inl ⟨rfl, fun x hx hx0 => ?_⟩
        by_cases hxm : x = m
        · subst hxm; exact hp hx0
        · exact h2 x (by omega) hx0
    · right
      by_cases hp : 0 < farF s m m ∧ ((bestF s m).2 = 0 ∨ farF s m m < (bestF s m).2)
      · rw [if_pos hp]
        have hb := h2.pos
        refine ⟨m, rfl, by omega, rfl, hp.1, fun x hx hx0 => ?_⟩
        by_cases hxm : x = m
        · subst hxm; exact ⟨Int.le_refl _, fun _ => Nat.le_refl _⟩
        · have := h2.le x (by omega) hx0
          refine ⟨by simp only; omega, fun h => ?_⟩
          simp only at h
          omega
      · rw [if_neg hp]
        refine ⟨f, h1, by have := h2.lt; omega, h2.eq, h2.pos, fun x hx hx0 => ?_⟩
        by_cases hxm : x = m
        · subst hxm
          have h3 : ¬ farF s x x < (bestF s x).2 := fun h => hp ⟨hx0, .inr h⟩
          exact ⟨by omega, fun _ => Nat.le_of_lt h2.lt⟩
        · exact h2.le x (by omega) hx0
def nxtB (s : Nat → W64) (g : Nat → Int) (at1 : Nat) (v : Int) (d : Nat) : Bool := (s at1).getLsbD d && g d == v
def cycR (s : Nat → W64) (n : Nat) (g : Nat → Int) (best : Int) : Nat → Nat → Int → List Nat
  | 0, _, _ => []
  | f + 1, at1, len => if len < best then match (List.range n).find? (nxtB s g at1 (best - len)) with
      | some d => d :: cycR s n g best f d (len + 1)
      | none => []
    else []
def cycV (s : Nat → W64) (n : Nat) : Option (List Nat) := if (bestF s n).1 < 0 then none else
  some ((bestF s n).1.toNat :: cycR s n (farF s (bestF s n).1.toNat) (bestF s n).2 66 (bestF s n).1.toNat 1)
end Go.Proofs.YtgmeahcclogfmaaDoor
