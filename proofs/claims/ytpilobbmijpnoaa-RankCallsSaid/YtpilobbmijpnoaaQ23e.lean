/-
  Chapter 23: May.
-/
import Derived.Test.YtpilobbmijpnoaaQ23d

namespace Go.Proofs.Ytpilobbmijpnoaa
open Go Go.Tp
set_option linter.unusedVariables false
set_option linter.unusedSimpArgs false
set_option maxRecDepth 100000
set_option maxHeartbeats 4000000

theorem idxI_p (f : FuncId) (c : List AV) (p : Int → Bool) (hcb : ∀ x, Pure Try.prog gs0 f (AI x :: c) (AB (p x))) (l : List Int) (hb : l.length ≤ 281474976710656) :
    Pure Try.prog gs0 24 [rowA l, .fn f [] c] (AI (idxF p l 0)) := by
  refine Pure.of (S := tt) (fn := Try.f24) (n := 19) tt_ok Try.func24 rfl rfl rfl rfl fun w0 h0 F hgs => ?_
  (repeat first|refine A.s rfl ?_|refine A.r rfl rfl ?_|refine A.w rfl rfl ?_|refine A.p rfl ?_|refine A.b rfl fun bx=>?_|refine A.t rfl fun bl=>?_|refine A.step rfl ?_|refine A.v rfl rfl ?_)
  refine A.valE 7 rfl (x' := AI (l.length : Nat)) (ai_eq (by rw [List.length_map])) ?_
  refine A.keep [0, 1, 7, 8] rfl ?_
  refine A.loopP (ι := Nat) (fun i => (⟨[(0, rowA l), (1, .fn f [] c), (7, AI (l.length : Nat)), (8, AI (i : Int))], []⟩, [])) (fun i => i ≤ l.length ∧ idxF p l 0 = idxF p (l.drop i) i) (fun i => l.length - i) 0 ⟨by omega, rfl⟩ rfl fun i hi ih => ?_
  (repeat first|refine A.s rfl ?_|refine A.r rfl rfl ?_|refine A.w rfl rfl ?_|refine A.p rfl ?_|refine A.b rfl fun bx=>?_|refine A.t rfl fun bl=>?_|refine A.step rfl ?_|refine A.v rfl rfl ?_)
  refine A.cond rfl (fun hc => ?_) (fun hc => ?_)
  · simp at hc
    refine Exists.elim (at_exN (l := l) (i := i) hc) fun x hx => ?_
    (repeat first|refine A.s rfl ?_|refine A.r rfl rfl ?_|refine A.w rfl rfl ?_|refine A.p rfl ?_|refine A.b rfl fun bx=>?_|refine A.t rfl fun bl=>?_|refine A.step rfl ?_|refine A.v rfl rfl ?_)
    refine A.x rfl (by omega) (map_at hx) rfl rfl ?_
    (repeat first|refine A.s rfl ?_|refine A.r rfl rfl ?_|refine A.w rfl rfl ?_|refine A.p rfl ?_|refine A.b rfl fun bx=>?_|refine A.t rfl fun bl=>?_|refine A.step rfl ?_|refine A.v rfl rfl ?_)
    refine A.c rfl (hcb x) SbL.refl ?_
    have h1 := hi.2
    rw [drop_at hx, idxF] at h1
    cases hp : p x with
    | true =>
      rw [hp] at h1
      (repeat first|refine A.s rfl ?_|refine A.r rfl rfl ?_|refine A.w rfl rfl ?_|refine A.p rfl ?_|refine A.b rfl fun bx=>?_|refine A.t rfl fun bl=>?_|refine A.step rfl ?_|refine A.v rfl rfl ?_); refine A.ret1 (Λ' := []) rfl rfl rfl (List.nil_sublist _) ⟨?_, rfl⟩; rw [h1]; exact .refl
    | false =>
      rw [hp] at h1
      (repeat first|refine A.s rfl ?_|refine A.r rfl rfl ?_|refine A.w rfl rfl ?_|refine A.p rfl ?_|refine A.b rfl fun bx=>?_|refine A.t rfl fun bl=>?_|refine A.step rfl ?_|refine A.v rfl rfl ?_)
      refine A.valE 8 rfl (x' := AI ((i + 1 : Nat) : Int)) (inc_eq i (by omega)) ?_
      refine A.sub (by repeat (first | exact trivial | refine ⟨⟨_, rfl, .refl⟩, ?_⟩)) (ih (i + 1) ⟨by omega, h1⟩ (by omega))
  · simp at hc
    have : i = l.length := by omega
    subst this
    (repeat first|refine A.s rfl ?_|refine A.r rfl rfl ?_|refine A.w rfl rfl ?_|refine A.p rfl ?_|refine A.b rfl fun bx=>?_|refine A.t rfl fun bl=>?_|refine A.step rfl ?_|refine A.v rfl rfl ?_); refine A.ret1 (Λ' := []) rfl rfl rfl (List.nil_sublist _) ⟨?_, rfl⟩; rw [hi.2, List.drop_length]; exact .refl
theorem hasI_p (f : FuncId) (c : List AV) (p : Int → Bool) (hcb : ∀ x, Pure Try.prog gs0 f (AI x :: c) (AB (p x))) (l : List Int) (hb : l.length ≤ 281474976710656) :
    Pure Try.prog gs0 20 [rowA l, .fn f [] c] (AB (l.any p)) := by
  refine Pure.of (S := tt) (fn := Try.f20) (n := 9) tt_ok Try.func20 rfl rfl rfl rfl fun w0 h0 F hgs => ?_
  (repeat first|refine A.s rfl ?_|refine A.r rfl rfl ?_|refine A.w rfl rfl ?_|refine A.p rfl ?_|refine A.b rfl fun bx=>?_|refine A.t rfl fun bl=>?_|refine A.step rfl ?_|refine A.v rfl rfl ?_)
  refine A.c rfl (idxI_p f c p hcb l hb) .refl ?_
  (repeat first|refine A.s rfl ?_|refine A.r rfl rfl ?_|refine A.w rfl rfl ?_|refine A.p rfl ?_|refine A.b rfl fun bx=>?_|refine A.t rfl fun bl=>?_|refine A.step rfl ?_|refine A.v rfl rfl ?_); refine A.ret1 (Λ' := []) rfl rfl rfl (List.nil_sublist _) ⟨?_, rfl⟩; refine Sb.eq (ab_eq ?_); exact idxF_any p l 0
theorem bit1 (a : W64) (x : Nat) : (bitsOf .and .u64 ((a >>> x).toNat : Int) 1 == 1) = a.getLsbD x := by
  have := uand (a >>> x) 1#64
  rw [show ((1#64 : W64).toNat : Int) = 1 from rfl] at this
  rw [this, bit_test]
def oddUse (x : Int) : Bool := x != 0 && x != 2
theorem may1_p (x : Int) : Pure Try.prog gs0 21 [AI x] (AB (oddUse x)) := by
  refine Pure.of (S := tt) (fn := Try.f21) (n := 9) tt_ok Try.func21 rfl rfl rfl rfl fun w0 h0 F hgs => ?_
  (repeat first|refine A.s rfl ?_|refine A.r rfl rfl ?_|refine A.w rfl rfl ?_|refine A.p rfl ?_|refine A.b rfl fun bx=>?_|refine A.t rfl fun bl=>?_)
  ((fail_if_success (refine A.lit? rfl ?_)); refine A.gS rfl (fun hc => ?_) (fun hc => ?_))
  · (repeat first|refine A.s rfl ?_|refine A.r rfl rfl ?_|refine A.w rfl rfl ?_|refine A.p rfl ?_|refine A.b rfl fun bx=>?_|refine A.t rfl fun bl=>?_|refine A.step rfl ?_|refine A.v rfl rfl ?_); refine A.ret1 (Λ' := []) rfl rfl rfl (List.nil_sublist _) ⟨?_, rfl⟩; refine Sb.eq (ab_eq ?_); rw [oddUse, hc]; rfl
  · (repeat first|refine A.s rfl ?_|refine A.r rfl rfl ?_|refine A.w rfl rfl ?_|refine A.p rfl ?_|refine A.b rfl fun bx=>?_|refine A.t rfl fun bl=>?_|refine A.step rfl ?_|refine A.v rfl rfl ?_); refine A.ret1 (Λ' := []) rfl rfl rfl (List.nil_sublist _) ⟨?_, rfl⟩; refine Sb.eq (ab_eq ?_); rw [oddUse, hc]; rfl

/-! ### the model -/
def chk (n : Int) (s : W64 × (Nat → Int)) (x : Int) : Option (W64 × (Nat → Int)) :=
  if x < 0 ∨ n ≤ x ∨ s.1.getLsbD x.toNat = true then none else some (s.1 ||| bitW x.toNat, upd s.2 x.toNat (w64 (s.2 x.toNat + 1)))
def stepM (n : Int) (s : W64 × (Nat → Int)) (st : List Int) : Option (W64 × (Nat → Int)) := if st = [] then none else st.foldlM (chk n) s
def procM (n : Int) (u : Nat → Int) (p : List (List Int)) : Option (Nat → Int) := if p = [] then none else (p.foldlM (stepM n) (0, u)).map (·.2)
def mayG (n : Int) (c : Procs) : Bool := decide (0 ≤ n) && decide (n ≤ 64) && decide (1 ≤ c.length) && decide (c.length ≤ 16)
def mayU (n : Int) (c : Procs) : Option (Nat → Int) := c.foldlM (procM n) fun _ => 0
def evenU : Option (Nat → Int) → Bool
  | none => false
  | some u => !((List.range 64).map u).any oddUse
def mayB (n : Int) (c : Procs) : Bool := mayG n c && evenU (mayU n c)
theorem foldM_at {α β : Type} {f : β → α → Option β} {l : List α} {i : Nat} {x : α} (h : l[i]? = some x) (s : β) : (l.drop i).foldlM f s = (f s x).bind fun s' => (l.drop (i + 1)).foldlM f s' := by
  rw [drop_at h, List.foldlM_cons]; rfl
theorem foldM_end {α β : Type} {f : β → α → Option β} {l : List α} (s : β) : (l.drop l.length).foldlM f s = some s := by
  rw [List.drop_length, List.foldlM_nil]; rfl
theorem none_may {n : Int} {c : Procs} (h : mayU n c = none) : mayB n c = false := by rw [mayB, h]; simp [evenU]

theorem may_p (n : Int) (c : Procs) (hs : ShortN c) : Pure Try.prog gs0 11 [netA n c] (AB (mayB n c)) := by
  have hcl : ((c.map procA).length : Int) = c.length := by rw [List.length_map]
  refine Pure.of (S := tt) (fn := Try.f11) (n := 86) tt_ok Try.func11 rfl rfl rfl rfl fun w0 h0 F hgs => ?_
  (repeat first|refine A.s rfl ?_|refine A.r rfl rfl ?_|refine A.w rfl rfl ?_|refine A.p rfl ?_|refine A.b rfl fun bx=>?_|refine A.t rfl fun bl=>?_)
  ((fail_if_success (refine A.lit? rfl ?_)); refine A.gS rfl (fun hc => ?_) (fun hc => ?_))
  · simp at hc; (repeat first|refine A.s rfl ?_|refine A.r rfl rfl ?_|refine A.w rfl rfl ?_|refine A.p rfl ?_|refine A.b rfl fun bx=>?_|refine A.t rfl fun bl=>?_|refine A.step rfl ?_|refine A.v rfl rfl ?_); refine A.ret1 (Λ' := []) rfl rfl rfl (List.nil_sublist _) ⟨?_, rfl⟩; refine Sb.eq (ab_eq ?_); rw [mayB, mayG, show decide (0 ≤ n) = false by simp; omega]; rfl
  simp at hc
  have g1 := hc
  (repeat first|refine A.s rfl ?_|refine A.r rfl rfl ?_|refine A.w rfl rfl ?_|refine A.p rfl ?_|refine A.b rfl fun bx=>?_|refine A.t rfl fun bl=>?_)
  ((fail_if_success (refine A.lit? rfl ?_)); refine A.gS rfl (fun hc => ?_) (fun hc => ?_))
  · simp at hc; (repeat first|refine A.s rfl ?_|refine A.r rfl rfl ?_|refine A.w rfl rfl ?_|refine A.p rfl ?_|refine A.b rfl fun bx=>?_|refine A.t rfl fun bl=>?_|refine A.step rfl ?_|refine A.v rfl rfl ?_); refine A.ret1 (Λ' := []) rfl rfl rfl (List.nil_sublist _) ⟨?_, rfl⟩; refine Sb.eq (ab_eq ?_); rw [mayB, mayG, show decide (n ≤ 64) = false by simp; omega]; simp
  simp at hc
  have g2 := hc
  (repeat first|refine A.s rfl ?_|refine A.r rfl rfl ?_|refine A.w rfl rfl ?_|refine A.p rfl ?_|refine A.b rfl fun bx=>?_|refine A.t rfl fun bl=>?_)
  ((fail_if_success (refine A.lit? rfl ?_)); refine A.gS rfl (fun hc => ?_) (fun hc => ?_))
  · simp at hc; (repeat first|refine A.s rfl ?_|refine A.r rfl rfl ?_|refine A.w rfl rfl ?_|refine A.p rfl ?_|refine A.b rfl fun bx=>?_|refine A.t rfl fun bl=>?_|refine A.step rfl ?_|refine A.v rfl rfl ?_); refine A.ret1 (Λ' := []) rfl rfl rfl (List.nil_sublist _) ⟨?_, rfl⟩; refine Sb.eq (ab_eq ?_); rw [mayB, mayG, show decide (1 ≤ c.length) = false from decide_eq_false (by omega)]; simp
  simp at hc
  have g3 : 1 ≤ c.length := by omega
  (repeat first|refine A.s rfl ?_|refine A.r rfl rfl ?_|refine A.w rfl rfl ?_|refine A.p rfl ?_|refine A.b rfl fun bx=>?_|refine A.t rfl fun bl=>?_)
  refine A.cond rfl (fun hc => ?_) (fun hc => ?_)
  · simp at hc; (repeat first|refine A.s rfl ?_|refine A.r rfl rfl ?_|refine A.w rfl rfl ?_|refine A.p rfl ?_|refine A.b rfl fun bx=>?_|refine A.t rfl fun bl=>?_|refine A.step rfl ?_|refine A.v rfl rfl ?_); refine A.ret1 (Λ' := []) rfl rfl rfl (List.nil_sublist _) ⟨?_, rfl⟩; refine Sb.eq (ab_eq ?_); rw [mayB, mayG, show decide (c.length ≤ 16) = false by simp; omega]; simp
  simp at hc
  have g4 := hc
  have hg : mayG n c = true := by simp only [mayG, Bool.and_eq_true, decide_eq_true_eq]; omega
  (repeat refine A.s rfl ?_)
  refine A.b rfl fun b1 => ?_
  refine A.headEq (.ag (intL fun _ => 0)) (by kernel_rfl) ?_
  (repeat first|refine A.s rfl ?_|refine A.r rfl rfl ?_|refine A.w rfl rfl ?_|refine A.p rfl ?_|refine A.b rfl fun bx=>?_|refine A.t rfl fun bl=>?_|refine A.step rfl ?_|refine A.v rfl rfl ?_)
  refine A.valE 33 rfl (x' := AI (c.length : Nat)) (ai_eq (by rw [List.length_map])) ?_
  refine A.keep [1, 3, 32, 33, 34] rfl ?_
  refine A.loopP (ι := Nat × (Nat → Int)) (fun p => (⟨[(1, .v (.pointer (some ⟨_, 0, none⟩))), (3, .v (.pointer (some ⟨b1, 0, none⟩))), (32, procsA c), (33, AI (c.length : Nat)), (34, AI (p.1 : Nat))], []⟩, [.box b1 (.ag (intL p.2)), .box _ (.ag [AI n, procsA c])]))
    (fun p => p.1 ≤ c.length ∧ (c.drop p.1).foldlM (procM n) p.2 = mayU n c) (fun p => c.length - p.1) (0, fun _ => 0) ⟨by omega, rfl⟩ rfl fun q hi ih => ?_
  obtain ⟨i, u⟩ := q
  simp only at hi ih ⊢
  (repeat first|refine A.s rfl ?_|refine A.r rfl rfl ?_|refine A.w rfl rfl ?_|refine A.p rfl ?_|refine A.b rfl fun bx=>?_|refine A.t rfl fun bl=>?_|refine A.step rfl ?_|refine A.v rfl rfl ?_)
  refine A.cond rfl (fun hc => ?_) (fun hc => ?_)
  · simp at hc
    refine Exists.elim (at_exN (l := c) (i := i) hc) fun p hp => ?_
    have hpm : p ∈ c := List.mem_of_getElem? hp
    have hpl : ((p.map rowA).length : Int) = p.length := by rw [List.length_map]
    have hpb := hs.steps p hpm
    have h1 := hi.2
    rw [foldM_at hp] at h1
    (repeat first|refine A.s rfl ?_|refine A.r rfl rfl ?_|refine A.w rfl rfl ?_|refine A.p rfl ?_|refine A.b rfl fun bx=>?_|refine A.t rfl fun bl=>?_|refine A.step rfl ?_|refine A.v rfl rfl ?_)
    refine A.x rfl (by omega) (map_at hp) rfl rfl ?_
    (repeat first|refine A.s rfl ?_|refine A.r rfl rfl ?_|refine A.w rfl rfl ?_|refine A.p rfl ?_|refine A.b rfl fun bx=>?_|refine A.t rfl fun bl=>?_|refine A.step rfl ?_|refine A.v rfl rfl ?_)
    refine A.cond rfl (fun hc => ?_) (fun hc => ?_)
    · simp at hc
      have hno : mayU n c = none := by rw [← h1, procM, if_pos hc]; rfl
      ((repeat first|refine A.s rfl ?_|refine A.r rfl rfl ?_|refine A.w rfl rfl ?_|refine A.p rfl ?_|refine A.b rfl fun bx=>?_|refine A.t rfl fun bl=>?_|refine A.step rfl ?_|refine A.v rfl rfl ?_); refine A.ret1 (Λ' := []) rfl rfl rfl (List.nil_sublist _) ⟨?_, rfl⟩; exact Sb.eq (ab_eq (none_may hno).symm))
    simp at hc
    rw [procM, if_neg hc] at h1
    (repeat first|refine A.s rfl ?_|refine A.r rfl rfl ?_|refine A.w rfl rfl ?_|refine A.p rfl ?_|refine A.b rfl fun bx=>?_|refine A.t rfl fun bl=>?_|refine A.step rfl ?_|refine A.v rfl rfl ?_)
    refine A.valE 6 rfl (x' := U64 0) rfl ?_
    refine A.valE 42 rfl (x' := AI (p.length : Nat)) (ai_eq (by rw [List.length_map])) ?_
    refine A.keep [1, 3, 6, 32, 33, 34, 41, 42, 43] rfl ?_
    refine A.loopP (ι := Nat × (W64 × (Nat → Int))) (fun q => (⟨[(1, .v (.pointer (some ⟨_, 0, none⟩))), (3, .v (.pointer (some ⟨b1, 0, none⟩))), (6, U64 q.2.1), (32, procsA c), (33, AI (c.length : Nat)), (34, AI (i : Nat)), (41, procA p), (42, AI (p.length : Nat)), (43, AI (q.1 : Nat))], []⟩, [.box b1 (.ag (intL q.2.2)), .box _ (.ag [AI n, procsA c])]))
      (fun q => q.1 ≤ p.length ∧ (p.drop q.1).foldlM (stepM n) q.2 = p.foldlM (stepM n) (0, u)) (fun q => p.length - q.1) (0, (0, u)) ⟨by omega, rfl⟩ rfl fun q hj jh => ?_
    obtain ⟨j, met, u1⟩ := q
    simp only at hj jh ⊢
    (repeat first|refine A.s rfl ?_|refine A.r rfl rfl ?_|refine A.w rfl rfl ?_|refine A.p rfl ?_|refine A.b rfl fun bx=>?_|refine A.t rfl fun bl=>?_|refine A.step rfl ?_|refine A.v rfl rfl ?_)
    refine A.cond rfl (fun hc => ?_) (fun hc => ?_)
    · simp at hc
      refine Exists.elim (at_exN (l := p) (i := j) hc) fun st hst => ?_
      have hsm : st ∈ p := List.mem_of_getElem? hst
      have hsb := hs.uses p hpm st hsm
      have h2 := hj.2
      rw [foldM_at hst] at h2
      (repeat first|refine A.s rfl ?_|refine A.r rfl rfl ?_|refine A.w rfl rfl ?_|refine A.p rfl ?_|refine A.b rfl fun bx=>?_|refine A.t rfl fun bl=>?_|refine A.step rfl ?_|refine A.v rfl rfl ?_)
      refine A.x rfl (by omega) (map_at hst) rfl rfl ?_
      (repeat first|refine A.s rfl ?_|refine A.r rfl rfl ?_|refine A.w rfl rfl ?_|refine A.p rfl ?_|refine A.b rfl fun bx=>?_|refine A.t rfl fun bl=>?_|refine A.step rfl ?_|refine A.v rfl rfl ?_)
      refine A.cond rfl (fun hc => ?_) (fun hc => ?_)
      · simp at hc
        have hno : mayU n c = none := by rw [← h1, ← h2, stepM, if_pos hc]; rfl
        ((repeat first|refine A.s rfl ?_|refine A.r rfl rfl ?_|refine A.w rfl rfl ?_|refine A.p rfl ?_|refine A.b rfl fun bx=>?_|refine A.t rfl fun bl=>?_|refine A.step rfl ?_|refine A.v rfl rfl ?_); refine A.ret1 (Λ' := []) rfl rfl rfl (List.nil_sublist _) ⟨?_, rfl⟩; exact Sb.eq (ab_eq (none_may hno).symm))
      simp at hc
      rw [stepM, if_neg hc] at h2
      (repeat first|refine A.s rfl ?_|refine A.r rfl rfl ?_|refine A.w rfl rfl ?_|refine A.p rfl ?_|refine A.b rfl fun bx=>?_|refine A.t rfl fun bl=>?_|refine A.step rfl ?_|refine A.v rfl rfl ?_)
      refine A.valE 51 rfl (x' := AI (st.length : Nat)) (ai_eq (by rw [List.length_map])) ?_
      refine A.keep [1, 3, 6, 32, 33, 34, 41, 42, 43, 50, 51, 52] rfl ?_
      refine A.loopP (ι := Nat × (W64 × (Nat → Int))) (fun q => (⟨[(1, .v (.pointer (some ⟨_, 0, none⟩))), (3, .v (.pointer (some ⟨b1, 0, none⟩))), (6, U64 q.2.1), (32, procsA c), (33, AI (c.length : Nat)), (34, AI (i : Nat)), (41, procA p), (42, AI (p.length : Nat)), (43, AI (j : Nat)), (50, rowA st), (51, AI (st.length : Nat)), (52, AI (q.1 : Nat))], []⟩, [.box b1 (.ag (intL q.2.2)), .box _ (.ag [AI n, procsA c])]))
        (fun q => q.1 ≤ st.length ∧ (st.drop q.1).foldlM (chk n) q.2 = st.foldlM (chk n) (met, u1)) (fun q => st.length - q.1) (0, (met, u1)) ⟨by omega, rfl⟩ rfl fun q hk kh => ?_
      obtain ⟨k1, met2, u2⟩ := q
      simp only at hk kh ⊢
      (repeat first|refine A.s rfl ?_|refine A.r rfl rfl ?_|refine A.w rfl rfl ?_|refine A.p rfl ?_|refine A.b rfl fun bx=>?_|refine A.t rfl fun bl=>?_|refine A.step rfl ?_|refine A.v rfl rfl ?_)
      refine A.cond rfl (fun hc => ?_) (fun hc => ?_)
      · simp at hc
        refine Exists.elim (at_exN (l := st) (i := k1) hc) fun x0 hx0 => ?_
        have h3 := hk.2
        rw [foldM_at hx0] at h3
        (repeat first|refine A.s rfl ?_|refine A.r rfl rfl ?_|refine A.w rfl rfl ?_|refine A.p rfl ?_|refine A.b rfl fun bx=>?_|refine A.t rfl fun bl=>?_|refine A.step rfl ?_|refine A.v rfl rfl ?_)
        refine A.x rfl (by omega) (map_at hx0) rfl rfl ?_
        (repeat first|refine A.s rfl ?_|refine A.r rfl rfl ?_|refine A.w rfl rfl ?_|refine A.p rfl ?_|refine A.b rfl fun bx=>?_|refine A.t rfl fun bl=>?_)
        ((fail_if_success (refine A.lit? rfl ?_)); refine A.gS rfl (fun hc => ?_) (fun hc => ?_))
        · simp at hc
          have hno : mayU n c = none := by rw [← h1, ← h2, ← h3, chk, if_pos (.inl hc)]; rfl
          ((repeat first|refine A.s rfl ?_|refine A.r rfl rfl ?_|refine A.w rfl rfl ?_|refine A.p rfl ?_|refine A.b rfl fun bx=>?_|refine A.t rfl fun bl=>?_|refine A.step rfl ?_|refine A.v rfl rfl ?_); refine A.ret1 (Λ' := []) rfl rfl rfl (List.nil_sublist _) ⟨?_, rfl⟩; exact Sb.eq (ab_eq (none_may hno).symm))
        simp at hc
        have x1 := hc
        (repeat first|refine A.s rfl ?_|refine A.r rfl rfl ?_|refine A.w rfl rfl ?_|refine A.p rfl ?_|refine A.b rfl fun bx=>?_|refine A.t rfl fun bl=>?_)
        ((fail_if_success (refine A.lit? rfl ?_)); refine A.gS rfl (fun hc => ?_) (fun hc => ?_))
        · simp at hc
          have hno : mayU n c = none := by rw [← h1, ← h2, ← h3, chk, if_pos (.inr (.inl hc))]; rfl
          ((repeat first|refine A.s rfl ?_|refine A.r rfl rfl ?_|refine A.w rfl rfl ?_|refine A.p rfl ?_|refine A.b rfl fun bx=>?_|refine A.t rfl fun bl=>?_|refine A.step rfl ?_|refine A.v rfl rfl ?_); refine A.ret1 (Λ' := []) rfl rfl rfl (List.nil_sublist _) ⟨?_, rfl⟩; exact Sb.eq (ab_eq (none_may hno).symm))
        simp at hc
        refine Exists.elim (nat_of (x := x0) ⟨x1, by omega⟩) fun x hx1 => ?_
        obtain ⟨hx64, rfl⟩ := hx1
        (repeat first|refine A.s rfl ?_|refine A.r rfl rfl ?_|refine A.w rfl rfl ?_|refine A.p rfl ?_|refine A.b rfl fun bx=>?_|refine A.t rfl fun bl=>?_|refine A.step rfl ?_|refine A.v rfl rfl ?_)
        refine A.shift rfl rfl rfl rfl rfl rfl (by omega) ?_
        refine A.valE 67 rfl (x' := U64 (met2 >>> x)) (u64_eq (ushr _ _ hx64)) ?_
        (repeat first|refine A.s rfl ?_|refine A.r rfl rfl ?_|refine A.w rfl rfl ?_|refine A.p rfl ?_|refine A.b rfl fun bx=>?_|refine A.t rfl fun bl=>?_|refine A.step rfl ?_|refine A.v rfl rfl ?_)
        refine A.valE 70 rfl (x' := AB (met2.getLsbD x)) (ab_eq (bit1 met2 x)) ?_
        refine A.cond rfl (fun hc => ?_) (fun hc => ?_)
        · have hm := hc
          have hno : mayU n c = none := by rw [← h1, ← h2, ← h3, chk, if_pos (.inr (.inr (by simpa using hm)))]; rfl
          ((repeat first|refine A.s rfl ?_|refine A.r rfl rfl ?_|refine A.w rfl rfl ?_|refine A.p rfl ?_|refine A.b rfl fun bx=>?_|refine A.t rfl fun bl=>?_|refine A.step rfl ?_|refine A.v rfl rfl ?_); refine A.ret1 (Λ' := []) rfl rfl rfl (List.nil_sublist _) ⟨?_, rfl⟩; exact Sb.eq (ab_eq (none_may hno).symm))
        · have hm := hc
          rw [chk, if_neg (by simp [hm]; omega)] at h3
          (repeat first|refine A.s rfl ?_|refine A.r rfl rfl ?_|refine A.w rfl rfl ?_|refine A.p rfl ?_|refine A.b rfl fun bx=>?_|refine A.t rfl fun bl=>?_|refine A.step rfl ?_|refine A.v rfl rfl ?_)
          refine A.shift rfl rfl rfl rfl rfl rfl (by omega) ?_
          (repeat first|refine A.s rfl ?_|refine A.r rfl rfl ?_|refine A.w rfl rfl ?_|refine A.p rfl ?_|refine A.b rfl fun bx=>?_|refine A.t rfl fun bl=>?_|refine A.step rfl ?_|refine A.v rfl rfl ?_)
          refine A.valE 6 rfl (x' := U64 (met2 ||| bitW x)) (u64_eq (by rw [ushl x hx64, uor])) ?_
          refine A.xa rfl (p := x) (by omega) (by omega) (off1 x) rfl ?_
          refine A.ra rfl (range_at _ hx64) rfl ?_
          (repeat first|refine A.s rfl ?_|refine A.r rfl rfl ?_|refine A.w rfl rfl ?_|refine A.p rfl ?_|refine A.b rfl fun bx=>?_|refine A.t rfl fun bl=>?_|refine A.step rfl ?_|refine A.v rfl rfl ?_)
          refine A.xa rfl (p := x) (by omega) (by omega) (off1 x) rfl ?_
          refine A.wa rfl rfl (by simp; omega) (range_set AI _ x (w64 (u2 x + 1))) ?_
          (repeat first|refine A.s rfl ?_|refine A.r rfl rfl ?_|refine A.w rfl rfl ?_|refine A.p rfl ?_|refine A.b rfl fun bx=>?_|refine A.t rfl fun bl=>?_|refine A.step rfl ?_|refine A.v rfl rfl ?_)
          refine A.valE 52 rfl (x' := AI ((k1 + 1 : Nat) : Int)) (inc_eq k1 (by omega)) ?_
          refine A.sub (by repeat (first | exact trivial | refine ⟨⟨_, rfl, .refl⟩, ?_⟩)) (kh (k1 + 1, (met2 ||| bitW x, upd u2 x (w64 (u2 x + 1)))) ⟨by omega, h3⟩ (by simp only; omega))
      · simp at hc
        have hkl : k1 = st.length := by omega
        have h3 := hk.2
        rw [hkl, foldM_end] at h3
        rw [← h3] at h2
        (repeat first|refine A.s rfl ?_|refine A.r rfl rfl ?_|refine A.w rfl rfl ?_|refine A.p rfl ?_|refine A.b rfl fun bx=>?_|refine A.t rfl fun bl=>?_|refine A.step rfl ?_|refine A.v rfl rfl ?_)
        refine A.valE 43 rfl (x' := AI ((j + 1 : Nat) : Int)) (inc_eq j (by omega)) ?_
        refine A.sub (by repeat (first | exact trivial | refine ⟨⟨_, rfl, .refl⟩, ?_⟩)) (jh (j + 1, (met2, u2)) ⟨by omega, h2⟩ (by simp only; omega))
    · simp at hc
      have hjl : j = p.length := by omega
      have h2 := hj.2
      rw [hjl, foldM_end] at h2
      rw [← h2] at h1
      (repeat first|refine A.s rfl ?_|refine A.r rfl rfl ?_|refine A.w rfl rfl ?_|refine A.p rfl ?_|refine A.b rfl fun bx=>?_|refine A.t rfl fun bl=>?_|refine A.step rfl ?_|refine A.v rfl rfl ?_)
      refine A.valE 34 rfl (x' := AI ((i + 1 : Nat) : Int)) (inc_eq i (by omega)) ?_
      refine A.sub (by repeat (first | exact trivial | refine ⟨⟨_, rfl, .refl⟩, ?_⟩)) (ih (i + 1, u1) ⟨by omega, h1⟩ (by simp only; omega))
  · simp at hc
    have hil : i = c.length := by omega
    have h1 := hi.2
    rw [hil, foldM_end] at h1
    (repeat refine A.s rfl ?_)
    refine A.freeze 3 (sz := 64) rfl rfl (by rw [lenN_eq, arr_len]) ?_
    refine A.sa rfl (arr_len _) (int_one _) rfl ?_
    refine A.valE 83 rfl (x' := rowA ((List.range 64).map u)) (by show AV.sl 1 ((List.range 64).map _) none = AV.sl 1 (((List.range 64).map u).map AI) none; rw [List.map_map]; rfl) ?_
    refine A.c rfl (hasI_p _ [] _ may1_p ((List.range 64).map u) (by simp)) .refl ?_
    (repeat first|refine A.s rfl ?_|refine A.r rfl rfl ?_|refine A.w rfl rfl ?_|refine A.p rfl ?_|refine A.b rfl fun bx=>?_|refine A.t rfl fun bl=>?_|refine A.step rfl ?_|refine A.v rfl rfl ?_); refine A.ret1 (Λ' := []) rfl rfl rfl (List.nil_sublist _) ⟨?_, rfl⟩; refine Sb.eq (ab_eq ?_); rw [mayB, hg, ← h1]; rfl
end Go.Proofs.Ytpilobbmijpnoaa
