/-
  Chapter 23: before.
-/
import Derived.Test.YtpilobbmijpnoaaQ23b

namespace Go.Proofs.Ytpilobbmijpnoaa
open Go Go.Tp
set_option linter.unusedVariables false
set_option linter.unusedSimpArgs false
set_option maxRecDepth 100000
set_option maxHeartbeats 4000000

def InB (c : Procs) : Prop := ∀ p, p ∈ c → ∀ s, s ∈ p → ∀ x, x ∈ s → 0 ≤ x ∧ x < 64
def addD (x : Nat) (g : Nat → W64) (d : Int) : Nat → W64 := upd g x (g x ||| bitW d.toNat)
def addX (a : List Int) (g : Nat → W64) (x : Int) : Nat → W64 := a.foldl (addD x.toNat) g
def addS (g : Nat → W64) (ab : List Int × List Int) : Nat → W64 := ab.2.foldl (addX ab.1) g
def addP (g : Nat → W64) (p : List (List Int)) : Nat → W64 := (p.zip p.tail).foldl addS g
def beforeF (c : Procs) : Nat → W64 := c.foldl addP fun _ => 0
theorem zip_at {p : List (List Int)} {j : Nat} {a b : List Int} (ha : p[j]? = some a) (hb : p[j + 1]? = some b) : (p.zip p.tail)[j]? = some (a, b) := by
  rw [List.getElem?_zip_eq_some]; exact ⟨ha, by rw [List.getElem?_tail]; exact hb⟩
theorem nat_of {x : Int} (h : 0 ≤ x ∧ x < 64) : ∃ n : Nat, n < 64 ∧ x = n := ⟨x.toNat, by omega, by omega⟩
theorem before_p (n : Int) (c : Procs) (hs : ShortN c) (hb : InB c) : Pure Try.prog gs0 16 [netA n c] (.ag (setL (beforeF c))) := by
  have hcl : ((c.map procA).length : Int) = c.length := by rw [List.length_map]
  refine Pure.of (S := tt) (fn := Try.f16) (n := 53) tt_ok Try.func16 rfl rfl rfl rfl fun w0 h0 F hgs => ?_
  (repeat first|refine A.s rfl ?_|refine A.r rfl rfl ?_|refine A.w rfl rfl ?_|refine A.p rfl ?_|refine A.b rfl fun bx=>?_|refine A.t rfl fun bl=>?_|refine A.step rfl ?_|refine A.v rfl rfl ?_)
  refine A.headEq (.ag (setL fun _ => 0)) (by kernel_rfl) ?_
  refine A.valE 12 rfl (x' := AI (c.length : Nat)) (ai_eq (by rw [List.length_map])) ?_
  refine A.keep [2, 11, 12, 13] rfl ?_
  refine A.loopP (ι := Nat × (Nat → W64)) (fun p => (⟨[(2, .v (.pointer (some ⟨_, 0, none⟩))), (11, procsA c), (12, AI (c.length : Nat)), (13, AI (p.1 : Nat))], []⟩, [.box _ (.ag (setL p.2)), .box _ (.ag [AI n, procsA c])]))
    (fun p => p.1 ≤ c.length ∧ (c.drop p.1).foldl addP p.2 = beforeF c) (fun p => c.length - p.1) (0, fun _ => 0) ⟨by omega, rfl⟩ rfl fun q hi ih => ?_
  obtain ⟨i, g0⟩ := q
  simp only at hi ih ⊢
  have hcb := hs.procs
  (repeat first|refine A.s rfl ?_|refine A.r rfl rfl ?_|refine A.w rfl rfl ?_|refine A.p rfl ?_|refine A.b rfl fun bx=>?_|refine A.t rfl fun bl=>?_|refine A.step rfl ?_|refine A.v rfl rfl ?_)
  refine A.cond rfl (fun hc => ?_) (fun hc => ?_)
  · simp at hc
    refine Exists.elim (at_exN (l := c) (i := i) hc) fun p hp => ?_
    have hpm : p ∈ c := List.mem_of_getElem? hp
    have hpl : ((p.map rowA).length : Int) = p.length := by rw [List.length_map]
    have hpb := hs.steps p hpm
    (repeat first|refine A.s rfl ?_|refine A.r rfl rfl ?_|refine A.w rfl rfl ?_|refine A.p rfl ?_|refine A.b rfl fun bx=>?_|refine A.t rfl fun bl=>?_|refine A.step rfl ?_|refine A.v rfl rfl ?_)
    refine A.x rfl (by omega) (map_at hp) rfl rfl ?_
    (repeat first|refine A.s rfl ?_|refine A.r rfl rfl ?_|refine A.w rfl rfl ?_|refine A.p rfl ?_|refine A.b rfl fun bx=>?_|refine A.t rfl fun bl=>?_|refine A.step rfl ?_|refine A.v rfl rfl ?_)
    refine A.keep [2, 4, 5, 11, 12, 13] rfl ?_
    refine A.loopP (ι := Nat × (Nat → W64)) (fun q => (⟨[(2, .v (.pointer (some ⟨_, 0, none⟩))), (4, procA p), (5, AI ((q.1 + 1 : Nat) : Int)), (11, procsA c), (12, AI (c.length : Nat)), (13, AI (i : Nat))], []⟩, [.box _ (.ag (setL q.2)), .box _ (.ag [AI n, procsA c])]))
      (fun q => q.1 ≤ p.length ∧ ((p.zip p.tail).drop q.1).foldl addS q.2 = addP g0 p) (fun q => p.length - q.1) (0, g0) ⟨by omega, rfl⟩ rfl fun q hj jh => ?_
    obtain ⟨j, g1⟩ := q
    simp only at hj jh ⊢
    (repeat first|refine A.s rfl ?_|refine A.r rfl rfl ?_|refine A.w rfl rfl ?_|refine A.p rfl ?_|refine A.b rfl fun bx=>?_|refine A.t rfl fun bl=>?_|refine A.step rfl ?_|refine A.v rfl rfl ?_)
    refine A.cond rfl (fun hc => ?_) (fun hc => ?_)
    · simp at hc
      refine Exists.elim (at_exN (l := p) (i := j + 1) (by omega)) fun b hb1 => ?_
      refine Exists.elim (at_exN (l := p) (i := j) (by omega)) fun a ha1 => ?_
      have hbm : b ∈ p := List.mem_of_getElem? hb1
      have ham : a ∈ p := List.mem_of_getElem? ha1
      have hab := hs.uses p hpm a ham
      have hbb := hs.uses p hpm b hbm
      have hz := zip_at ha1 hb1
      have h2 := hj.2
      rw [drop_at hz, List.foldl_cons] at h2
      (repeat first|refine A.s rfl ?_|refine A.r rfl rfl ?_|refine A.w rfl rfl ?_|refine A.p rfl ?_|refine A.b rfl fun bx=>?_|refine A.t rfl fun bl=>?_|refine A.step rfl ?_|refine A.v rfl rfl ?_)
      refine A.x rfl (by omega) (map_at hb1) rfl rfl ?_
      (repeat first|refine A.s rfl ?_|refine A.r rfl rfl ?_|refine A.w rfl rfl ?_|refine A.p rfl ?_|refine A.b rfl fun bx=>?_|refine A.t rfl fun bl=>?_|refine A.step rfl ?_|refine A.v rfl rfl ?_)
      refine A.valE 27 rfl (x' := AI (b.length : Nat)) (ai_eq (by rw [List.length_map])) ?_
      refine A.keep [2, 4, 5, 11, 12, 13, 26, 27, 28] rfl ?_
      refine A.loopP (ι := Nat × (Nat → W64)) (fun q => (⟨[(2, .v (.pointer (some ⟨_, 0, none⟩))), (4, procA p), (5, AI ((j + 1 : Nat) : Int)), (11, procsA c), (12, AI (c.length : Nat)), (13, AI (i : Nat)), (26, rowA b), (27, AI (b.length : Nat)), (28, AI (q.1 : Nat))], []⟩, [.box _ (.ag (setL q.2)), .box _ (.ag [AI n, procsA c])]))
        (fun q => q.1 ≤ b.length ∧ (b.drop q.1).foldl (addX a) q.2 = addS g1 (a, b)) (fun q => b.length - q.1) (0, g1) ⟨by omega, rfl⟩ rfl fun q hk kh => ?_
      obtain ⟨k1, g2⟩ := q
      simp only at hk kh ⊢
      (repeat first|refine A.s rfl ?_|refine A.r rfl rfl ?_|refine A.w rfl rfl ?_|refine A.p rfl ?_|refine A.b rfl fun bx=>?_|refine A.t rfl fun bl=>?_|refine A.step rfl ?_|refine A.v rfl rfl ?_)
      refine A.cond rfl (fun hc => ?_) (fun hc => ?_)
      · simp at hc
        refine Exists.elim (at_exN (l := b) (i := k1) hc) fun x0 hx0 => ?_
        refine Exists.elim (nat_of (hb p hpm b hbm x0 (List.mem_of_getElem? hx0))) fun x hx1 => ?_
        have hx : b[k1]? = some (x : Int) := by rw [hx0, hx1.2]
        have h3 := hk.2
        rw [drop_at hx, List.foldl_cons] at h3
        (repeat first|refine A.s rfl ?_|refine A.r rfl rfl ?_|refine A.w rfl rfl ?_|refine A.p rfl ?_|refine A.b rfl fun bx=>?_|refine A.t rfl fun bl=>?_|refine A.step rfl ?_|refine A.v rfl rfl ?_)
        refine A.x rfl (by omega) (map_at hx) rfl rfl ?_
        (repeat first|refine A.s rfl ?_|refine A.r rfl rfl ?_|refine A.w rfl rfl ?_|refine A.p rfl ?_|refine A.b rfl fun bx=>?_|refine A.t rfl fun bl=>?_|refine A.step rfl ?_|refine A.v rfl rfl ?_)
        refine A.valE 34 rfl (x' := AI (j : Nat)) (ai_eq (by rw [w64_id (by unfold i64; omega)]; omega)) ?_
        (repeat first|refine A.s rfl ?_|refine A.r rfl rfl ?_|refine A.w rfl rfl ?_|refine A.p rfl ?_|refine A.b rfl fun bx=>?_|refine A.t rfl fun bl=>?_|refine A.step rfl ?_|refine A.v rfl rfl ?_)
        refine A.x rfl (by omega) (map_at ha1) rfl rfl ?_
        (repeat first|refine A.s rfl ?_|refine A.r rfl rfl ?_|refine A.w rfl rfl ?_|refine A.p rfl ?_|refine A.b rfl fun bx=>?_|refine A.t rfl fun bl=>?_|refine A.step rfl ?_|refine A.v rfl rfl ?_)
        refine A.valE 37 rfl (x' := AI (a.length : Nat)) (ai_eq (by rw [List.length_map])) ?_
        refine A.keep [2, 4, 5, 7, 11, 12, 13, 26, 27, 28, 36, 37, 38] rfl ?_
        refine A.loopP (ι := Nat × (Nat → W64)) (fun q => (⟨[(2, .v (.pointer (some ⟨_, 0, none⟩))), (4, procA p), (5, AI ((j + 1 : Nat) : Int)), (7, AI (x : Nat)), (11, procsA c), (12, AI (c.length : Nat)), (13, AI (i : Nat)), (26, rowA b), (27, AI (b.length : Nat)), (28, AI (k1 : Nat)), (36, rowA a), (37, AI (a.length : Nat)), (38, AI (q.1 : Nat))], []⟩, [.box _ (.ag (setL q.2)), .box _ (.ag [AI n, procsA c])]))
          (fun q => q.1 ≤ a.length ∧ (a.drop q.1).foldl (addD x) q.2 = addX a g2 x) (fun q => a.length - q.1) (0, g2) ⟨by omega, by simp [addX]⟩ rfl fun q hm mh => ?_
        obtain ⟨m1, g3⟩ := q
        simp only at hm mh ⊢
        (repeat first|refine A.s rfl ?_|refine A.r rfl rfl ?_|refine A.w rfl rfl ?_|refine A.p rfl ?_|refine A.b rfl fun bx=>?_|refine A.t rfl fun bl=>?_|refine A.step rfl ?_|refine A.v rfl rfl ?_)
        refine A.cond rfl (fun hc => ?_) (fun hc => ?_)
        · simp at hc
          refine Exists.elim (at_exN (l := a) (i := m1) hc) fun d0 hd0 => ?_
          refine Exists.elim (nat_of (hb p hpm a ham d0 (List.mem_of_getElem? hd0))) fun d hd1 => ?_
          have hd : a[m1]? = some (d : Int) := by rw [hd0, hd1.2]
          have h4 := hm.2
          rw [drop_at hd, List.foldl_cons] at h4
          (repeat first|refine A.s rfl ?_|refine A.r rfl rfl ?_|refine A.w rfl rfl ?_|refine A.p rfl ?_|refine A.b rfl fun bx=>?_|refine A.t rfl fun bl=>?_|refine A.step rfl ?_|refine A.v rfl rfl ?_)
          refine A.x rfl (by omega) (map_at hd) rfl rfl ?_
          (repeat first|refine A.s rfl ?_|refine A.r rfl rfl ?_|refine A.w rfl rfl ?_|refine A.p rfl ?_|refine A.b rfl fun bx=>?_|refine A.t rfl fun bl=>?_|refine A.step rfl ?_|refine A.v rfl rfl ?_)
          refine A.draw 5 [0, 1, 2, 3, 4] noPubs [] (by kernel_rfl) (by kernel_rfl) ?_
          (repeat first|refine WA.s rfl ?_|refine WA.r rfl rfl ?_|refine WA.p rfl ?_|refine WA.step rfl ?_|refine WA.v rfl rfl ?_)
          refine WA.xa rfl (p := x) (by omega) (by omega) (off1 x) rfl ?_
          refine WA.ra rfl (range_at _ hx1.1) rfl ?_
          (repeat first|refine WA.s rfl ?_|refine WA.r rfl rfl ?_|refine WA.p rfl ?_|refine WA.step rfl ?_|refine WA.v rfl rfl ?_)
          refine WA.shift rfl rfl rfl rfl rfl rfl rfl (by omega) ?_
          refine WA.nil (l := []) rfl ?_
          refine A.valE 46 rfl (x' := U64 (bitW d)) (u64_eq (ushl d hd1.1)) ?_
          (repeat first|refine A.s rfl ?_|refine A.r rfl rfl ?_|refine A.w rfl rfl ?_|refine A.p rfl ?_|refine A.b rfl fun bx=>?_|refine A.t rfl fun bl=>?_|refine A.step rfl ?_|refine A.v rfl rfl ?_)
          refine A.valE 47 rfl (x' := U64 (g3 x ||| bitW d)) (u64_eq (uor _ _)) ?_
          refine A.xa rfl (p := x) (by omega) (by omega) (off1 x) rfl ?_
          refine A.wa rfl rfl (by simp; omega) (range_set U64 g3 x (g3 x ||| bitW d)) ?_
          (repeat first|refine A.s rfl ?_|refine A.r rfl rfl ?_|refine A.w rfl rfl ?_|refine A.p rfl ?_|refine A.b rfl fun bx=>?_|refine A.t rfl fun bl=>?_|refine A.step rfl ?_|refine A.v rfl rfl ?_)
          refine A.valE 38 rfl (x' := AI ((m1 + 1 : Nat) : Int)) (inc_eq m1 (by omega)) ?_
          refine A.sub (by repeat (first | exact trivial | refine ⟨⟨_, rfl, .refl⟩, ?_⟩)) (mh (m1 + 1, upd g3 x (g3 x ||| bitW d)) ⟨by omega, h4⟩ (by simp only; omega))
        · simp at hc
          have hml : m1 = a.length := by omega
          have h4 := hm.2
          rw [hml, List.drop_length, List.foldl_nil] at h4
          (repeat first|refine A.s rfl ?_|refine A.r rfl rfl ?_|refine A.w rfl rfl ?_|refine A.p rfl ?_|refine A.b rfl fun bx=>?_|refine A.t rfl fun bl=>?_|refine A.step rfl ?_|refine A.v rfl rfl ?_)
          refine A.valE 28 rfl (x' := AI ((k1 + 1 : Nat) : Int)) (inc_eq k1 (by omega)) ?_
          refine A.sub (by repeat (first | exact trivial | refine ⟨⟨_, rfl, .refl⟩, ?_⟩)) (kh (k1 + 1, g3) ⟨by omega, by rw [h4]; exact h3⟩ (by simp only; omega))
      · simp at hc
        have hkl : k1 = b.length := by omega
        have h3 := hk.2
        rw [hkl, List.drop_length, List.foldl_nil] at h3
        (repeat first|refine A.s rfl ?_|refine A.r rfl rfl ?_|refine A.w rfl rfl ?_|refine A.p rfl ?_|refine A.b rfl fun bx=>?_|refine A.t rfl fun bl=>?_|refine A.step rfl ?_|refine A.v rfl rfl ?_)
        refine A.valE 5 rfl (x' := AI ((j + 1 + 1 : Nat) : Int)) (inc_eq (j + 1) (by omega)) ?_
        refine A.sub (by repeat (first | exact trivial | refine ⟨⟨_, rfl, .refl⟩, ?_⟩)) (jh (j + 1, g2) ⟨by omega, by rw [h3]; exact h2⟩ (by simp only; omega))
    · simp at hc
      have hzl : (p.zip p.tail).drop j = [] := List.drop_eq_nil_of_le (by rw [List.length_zip, List.length_tail]; omega)
      have h2 := hj.2
      rw [hzl, List.foldl_nil] at h2
      have h1 := hi.2
      rw [drop_at hp, List.foldl_cons] at h1
      (repeat first|refine A.s rfl ?_|refine A.r rfl rfl ?_|refine A.w rfl rfl ?_|refine A.p rfl ?_|refine A.b rfl fun bx=>?_|refine A.t rfl fun bl=>?_|refine A.step rfl ?_|refine A.v rfl rfl ?_)
      refine A.valE 13 rfl (x' := AI ((i + 1 : Nat) : Int)) (inc_eq i (by omega)) ?_
      refine A.sub (by repeat (first | exact trivial | refine ⟨⟨_, rfl, .refl⟩, ?_⟩)) (ih (i + 1, g1) ⟨by omega, by rw [h2]; exact h1⟩ (by simp only; omega))
  · simp at hc
    have hil : i = c.length := by omega
    have h1 := hi.2
    rw [hil, List.drop_length, List.foldl_nil] at h1
    (repeat refine A.s rfl ?_)
    refine A.la rfl (arr_len _) rfl ?_
    refine A.wl rfl (set_one _) (arr_len _) (arr_len _) ?_
    (repeat first|refine A.s rfl ?_|refine A.r rfl rfl ?_|refine A.w rfl rfl ?_|refine A.p rfl ?_|refine A.b rfl fun bx=>?_|refine A.t rfl fun bl=>?_|refine A.step rfl ?_|refine A.v rfl rfl ?_)
    refine A.retC (Λ' := []) rfl rfl rfl rfl (ldA_all rfl (arr_len _)) (List.nil_sublist _) ⟨?_, rfl⟩
    rw [h1]; exact .refl
end Go.Proofs.Ytpilobbmijpnoaa
