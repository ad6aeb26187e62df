/-
  Layer 10: expressions as data: what is valid.
-/
import Derived.Test.YtbdjbmbghfbenaaQ08a
import Derived.Test.YtbdjbmbghfbenaaQ14d

namespace Go.Proofs.Ytbdjbmbghfbenaa
open Go Go.Tp
set_option linter.unusedVariables false
set_option linter.unusedSimpArgs false
set_option maxRecDepth 100000
set_option maxHeartbeats 4000000

inductive XE where
  | mk (kind oper to n : Int) (s : List UInt8) (l : List XE)
abbrev XE.kind : XE → Int | ⟨k, _, _, _, _, _⟩ => k
abbrev XE.oper : XE → Int | ⟨_, o, _, _, _, _⟩ => o
abbrev XE.to : XE → Int | ⟨_, _, t, _, _, _⟩ => t
abbrev XE.n : XE → Int | ⟨_, _, _, n, _, _⟩ => n
abbrev XE.s : XE → List UInt8 | ⟨_, _, _, _, s, _⟩ => s
abbrev XE.l : XE → List XE | ⟨_, _, _, _, _, l⟩ => l
mutual
def encX : XE → AV
  | ⟨k, o, t, n, s, l⟩ => .ag [AU8 k, AU8 o, AU8 t, AI32 n, AS s, .sl 6 (encXl l) none]
def encXl : List XE → List AV
  | [] => []
  | e :: r => encX e :: encXl r
end
theorem encX_eq (e : XE) : encX e = .ag [AU8 e.kind, AU8 e.oper, AU8 e.to, AI32 e.n, AS e.s, .sl 6 (encXl e.l) none] := by obtain ⟨k, o, t, n, s, l⟩ := e; rw [encX]
theorem encXl_map (l : List XE) : encXl l = l.map encX := by
  induction l with
  | nil => rw [encXl]; rfl
  | cons x r ih => rw [encXl, ih]; rfl
theorem encXl_len (l : List XE) : (encXl l).length = l.length := by rw [encXl_map, List.length_map]
theorem encXl_at {l : List XE} {i : Nat} {x : XE} (h : l[i]? = some x) : (encXl l)[i]? = some (encX x) := by rw [encXl_map]; exact map_at h
mutual
/-- its numbers are such of their kinds, its name and its parts not longer than memory bears -/
def wfX : XE → Prop
  | ⟨k, o, t, n, s, l⟩ => (u8 k ∧ u8 o ∧ u8 t ∧ i32 n ∧ s.length ≤ 281474976710656 ∧ l.length ≤ 281474976710656) ∧ wfXl l
def wfXl : List XE → Prop
  | [] => True
  | e :: r => wfX e ∧ wfXl r
end
theorem wfX_l {e : XE} (h : wfX e) : wfXl e.l := by obtain ⟨k, o, t, n, s, l⟩ := e; rw [wfX] at h; exact h.2
theorem wfXl_mem : ∀ {l : List XE}, wfXl l → ∀ x, x ∈ l → wfX x
  | [], _, _, h => by cases h
  | y :: r, hf, x, h => by
    rw [wfXl] at hf
    rcases List.mem_cons.1 h with rfl | h
    · exact hf.1
    · exact wfXl_mem hf.2 x h
/-- how many parts, and whether its own fields are right -/
def partsM (k o t n : Int) (s : List UInt8) : Int × Bool :=
  if k = 1 then (0, o == 0 && t == 0 && decide (s = []))
  else if k = 2 then (if 0 ≤ n ∧ n ≤ 255 then (0, o == 0 && t == 0 && decide (s = [])) else (0, false))
  else if k = 3 then (if 0 ≤ n ∧ n ≤ 1 then (0, o == 0 && t == 0 && decide (s = [])) else (0, false))
  else if k = 4 ∨ k = 5 ∨ k = 9 then (if nameB s then (if k = 5 then 1 else 0, o == 0 && t == 0 && n == 0) else (0, false))
  else if k = 6 then (if 23 ≤ o ∧ o ≤ 26 then (1, t == 0 && n == 0 && decide (s = [])) else (0, false))
  else if k = 7 then (if 1 ≤ o ∧ o ≤ 22 then (2, t == 0 && n == 0 && decide (s = [])) else (0, false))
  else if k = 8 then (if 1 ≤ t ∧ t ≤ 3 then (1, o == 0 && n == 0 && decide (s = [])) else (0, false))
  else (0, false)
abbrev partsA (p : Int × Bool) : AV := .tp [AI p.1, AB p.2]
theorem nil_eq (s : List UInt8) : ((BS s).toList == (ByteArray.mk #[]).toList) = decide (s = []) := by
  have : (ByteArray.mk #[]) = BS [] := rfl
  rw [this, bs_eq]; cases s <;> rfl
def primL (k : Int) : List UInt8 := if k = 1 then [73, 78, 84] else if k = 2 then [66, 89, 84, 69] else if k = 3 then [66, 79, 79, 76] else []
theorem primitive_p (k : Int) : Pure Try.prog gs0 47 [AU8 k] (AS (primL k)) := by
  by_cases h1 : k = 1
  · subst h1; refine Pure.of (S := tt) (fn := Try.f47) (n := 10) tt_ok Try.func47 rfl rfl rfl rfl fun w0 h0 F hgs => ?_
    (repeat first|refine A.s rfl ?_|refine A.r rfl rfl ?_|refine A.w rfl rfl ?_|refine A.p rfl ?_|refine A.b rfl fun bx=>?_|refine A.t rfl fun bl=>?_|refine A.step rfl ?_|refine A.v rfl rfl ?_); refine A.ret1 (Λ' := []) rfl rfl rfl (List.nil_sublist _) ⟨?_, rfl⟩; exact .refl
  by_cases h2 : k = 2
  · subst h2; refine Pure.of (S := tt) (fn := Try.f47) (n := 10) tt_ok Try.func47 rfl rfl rfl rfl fun w0 h0 F hgs => ?_
    (repeat first|refine A.s rfl ?_|refine A.r rfl rfl ?_|refine A.w rfl rfl ?_|refine A.p rfl ?_|refine A.b rfl fun bx=>?_|refine A.t rfl fun bl=>?_|refine A.step rfl ?_|refine A.v rfl rfl ?_); refine A.ret1 (Λ' := []) rfl rfl rfl (List.nil_sublist _) ⟨?_, rfl⟩; exact .refl
  by_cases h3 : k = 3
  · subst h3; refine Pure.of (S := tt) (fn := Try.f47) (n := 10) tt_ok Try.func47 rfl rfl rfl rfl fun w0 h0 F hgs => ?_
    (repeat first|refine A.s rfl ?_|refine A.r rfl rfl ?_|refine A.w rfl rfl ?_|refine A.p rfl ?_|refine A.b rfl fun bx=>?_|refine A.t rfl fun bl=>?_|refine A.step rfl ?_|refine A.v rfl rfl ?_); refine A.ret1 (Λ' := []) rfl rfl rfl (List.nil_sublist _) ⟨?_, rfl⟩; exact .refl
  · refine Pure.of (S := tt) (fn := Try.f47) (n := 10) tt_ok Try.func47 rfl rfl rfl rfl fun w0 h0 F hgs => ?_
    (repeat first|refine A.s rfl ?_|refine A.r rfl rfl ?_|refine A.w rfl rfl ?_|refine A.p rfl ?_|refine A.b rfl fun bx=>?_|refine A.t rfl fun bl=>?_|refine A.step rfl ?_|refine A.v rfl rfl ?_)
    refine A.valE 4 rfl (x' := AB false) (ab_eq (by simp [h1])) ?_
    (repeat first|refine A.s rfl ?_|refine A.r rfl rfl ?_|refine A.w rfl rfl ?_|refine A.p rfl ?_|refine A.b rfl fun bx=>?_|refine A.t rfl fun bl=>?_|refine A.step rfl ?_|refine A.v rfl rfl ?_)
    refine A.valE 6 rfl (x' := AB false) (ab_eq (by simp [h2])) ?_
    (repeat first|refine A.s rfl ?_|refine A.r rfl rfl ?_|refine A.w rfl rfl ?_|refine A.p rfl ?_|refine A.b rfl fun bx=>?_|refine A.t rfl fun bl=>?_|refine A.step rfl ?_|refine A.v rfl rfl ?_)
    refine A.valE 8 rfl (x' := AB false) (ab_eq (by simp [h3])) ?_
    (repeat first|refine A.s rfl ?_|refine A.r rfl rfl ?_|refine A.w rfl rfl ?_|refine A.p rfl ?_|refine A.b rfl fun bx=>?_|refine A.t rfl fun bl=>?_|refine A.step rfl ?_|refine A.v rfl rfl ?_); refine A.ret1 (Λ' := []) rfl rfl rfl (List.nil_sublist _) ⟨?_, rfl⟩; refine Sb.eq ?_; simp [primL, h1, h2, h3]
theorem tp2_eq {a a' : Int} {b b' : Bool} (h1 : a = a') (h2 : b = b') : AV.tp [AI a, AB b] = .tp [AI a', AB b'] := by rw [h1, h2]
theorem bif4 (a b c d : Bool) : (bif bif bif a then b else false then c else false then d else false) = (a && b && c && d) := by cases a <;> cases b <;> cases c <;> rfl
theorem shr_zero (n k : Int) (h : 0 < k) : (n.fdiv k != 0) = !(decide (0 ≤ n ∧ n < k)) := by
  rw [Int.fdiv_eq_ediv_of_nonneg _ (by omega)]
  by_cases hn : 0 ≤ n ∧ n < k
  · rw [Int.ediv_eq_zero_of_lt hn.1 hn.2]; simp [hn]
  · have : n / k ≠ 0 := fun h0 => hn (by
      have h1 := Int.mul_ediv_add_emod n k
      have h2 := Int.emod_nonneg n (by omega : k ≠ 0)
      have h3 := Int.emod_lt_of_pos n h
      rw [h0] at h1; simp at h1; omega)
    simp [hn, this]
theorem parts_p (m : Int) (e : XE) (hw : wfX e) : Pure Try.prog (gsM m) 34 [encX e] (partsA (partsM e.kind e.oper e.to e.n e.s)) := by
  obtain ⟨k, o, t, n, s, l⟩ := e
  simp only [wfX] at hw
  obtain ⟨⟨hk, ho, ht, hn, hs, hl⟩, _⟩ := hw
  unfold u8 at hk ho ht
  have hnm := name_p m s hs
  have hpr := (primitive_p t).any (gs := gsM m)
  show Pure _ _ _ _ (partsA (partsM k o t n s))
  rw [encX]
  by_cases h1 : k = 1
  · subst h1
    have hpm : partsM 1 o t n s = (0, o == 0 && t == 0 && decide (s = [])) := rfl
    refine Pure.of (S := tt) (fn := Try.f34) (n := 88) tt_ok Try.func34 rfl rfl rfl rfl fun w0 h0 F hgs => ?_
    (repeat first|refine A.s rfl ?_|refine A.r rfl rfl ?_|refine A.w rfl rfl ?_|refine A.p rfl ?_|refine A.b rfl fun bx=>?_|refine A.t rfl fun bl=>?_|refine A.step rfl ?_|refine A.v rfl rfl ?_); (refine A.draw 20 [0, 1, 2, 3, 4, 5, 6, 7, 8, 9, 10, 11, 12, 13, 14, 15, 16, 17, 18, 19] noPubs [] (by kernel_rfl) (by kernel_rfl) ?_; (repeat first|refine WA.s rfl ?_|refine WA.r rfl rfl ?_|refine WA.p rfl ?_|refine WA.step rfl ?_|refine WA.v rfl rfl ?_); refine WA.nil (l := []) rfl ?_; (repeat first|refine A.s rfl ?_|refine A.r rfl rfl ?_|refine A.w rfl rfl ?_|refine A.p rfl ?_|refine A.b rfl fun bx=>?_|refine A.t rfl fun bl=>?_|refine A.step rfl ?_|refine A.v rfl rfl ?_); refine A.ret2 (Λ' := []) rfl rfl rfl rfl (List.nil_sublist _) ⟨?_, rfl⟩; rw [hpm]; refine Sb.eq (tp2_eq rfl ?_))
    rw [nil_eq, bif4]; simp
  by_cases h2 : k = 2
  · subst h2
    by_cases hr : 0 ≤ n ∧ n ≤ 255
    · have hpm : partsM 2 o t n s = (0, o == 0 && t == 0 && decide (s = [])) := by show (if 0 ≤ n ∧ n ≤ 255 then _ else _) = _; rw [if_pos hr]
      refine Pure.of (S := tt) (fn := Try.f34) (n := 88) tt_ok Try.func34 rfl rfl rfl rfl fun w0 h0 F hgs => ?_
      (repeat first|refine A.s rfl ?_|refine A.r rfl rfl ?_|refine A.w rfl rfl ?_|refine A.p rfl ?_|refine A.b rfl fun bx=>?_|refine A.t rfl fun bl=>?_|refine A.step rfl ?_|refine A.v rfl rfl ?_)
      refine A.shift rfl rfl rfl rfl rfl rfl (by decide) ?_
      (repeat first|refine A.s rfl ?_|refine A.r rfl rfl ?_|refine A.w rfl rfl ?_|refine A.p rfl ?_|refine A.b rfl fun bx=>?_|refine A.t rfl fun bl=>?_|refine A.step rfl ?_|refine A.v rfl rfl ?_)
      refine A.valE 18 rfl (x' := AB false) (ab_eq (by show (n.fdiv 256 != 0) = false; rw [shr_zero _ _ (by decide)]; simp; omega)) ?_
      (repeat first|refine A.s rfl ?_|refine A.r rfl rfl ?_|refine A.w rfl rfl ?_|refine A.p rfl ?_|refine A.b rfl fun bx=>?_|refine A.t rfl fun bl=>?_|refine A.step rfl ?_|refine A.v rfl rfl ?_); (refine A.draw 20 [0, 1, 2, 3, 4, 5, 6, 7, 8, 9, 10, 11, 12, 13, 14, 15, 16, 17, 18, 19] noPubs [] (by kernel_rfl) (by kernel_rfl) ?_; (repeat first|refine WA.s rfl ?_|refine WA.r rfl rfl ?_|refine WA.p rfl ?_|refine WA.step rfl ?_|refine WA.v rfl rfl ?_); refine WA.nil (l := []) rfl ?_; (repeat first|refine A.s rfl ?_|refine A.r rfl rfl ?_|refine A.w rfl rfl ?_|refine A.p rfl ?_|refine A.b rfl fun bx=>?_|refine A.t rfl fun bl=>?_|refine A.step rfl ?_|refine A.v rfl rfl ?_); refine A.ret2 (Λ' := []) rfl rfl rfl rfl (List.nil_sublist _) ⟨?_, rfl⟩; rw [hpm]; refine Sb.eq (tp2_eq rfl ?_))
      rw [nil_eq, bif4]; simp
    · have hpm : partsM 2 o t n s = (0, false) := by show (if 0 ≤ n ∧ n ≤ 255 then _ else _) = _; rw [if_neg hr]
      refine Pure.of (S := tt) (fn := Try.f34) (n := 88) tt_ok Try.func34 rfl rfl rfl rfl fun w0 h0 F hgs => ?_
      (repeat first|refine A.s rfl ?_|refine A.r rfl rfl ?_|refine A.w rfl rfl ?_|refine A.p rfl ?_|refine A.b rfl fun bx=>?_|refine A.t rfl fun bl=>?_|refine A.step rfl ?_|refine A.v rfl rfl ?_)
      refine A.shift rfl rfl rfl rfl rfl rfl (by decide) ?_
      (repeat first|refine A.s rfl ?_|refine A.r rfl rfl ?_|refine A.w rfl rfl ?_|refine A.p rfl ?_|refine A.b rfl fun bx=>?_|refine A.t rfl fun bl=>?_|refine A.step rfl ?_|refine A.v rfl rfl ?_)
      refine A.valE 18 rfl (x' := AB true) (ab_eq (by show (n.fdiv 256 != 0) = true; rw [shr_zero _ _ (by decide)]; simp; omega)) ?_
      (repeat first|refine A.s rfl ?_|refine A.r rfl rfl ?_|refine A.w rfl rfl ?_|refine A.p rfl ?_|refine A.b rfl fun bx=>?_|refine A.t rfl fun bl=>?_|refine A.step rfl ?_|refine A.v rfl rfl ?_); refine A.ret2 (Λ' := []) rfl rfl rfl rfl (List.nil_sublist _) ⟨?_, rfl⟩; rw [hpm]; exact .refl
  by_cases h3 : k = 3
  · subst h3
    by_cases hr : 0 ≤ n ∧ n ≤ 1
    · have hpm : partsM 3 o t n s = (0, o == 0 && t == 0 && decide (s = [])) := by show (if 0 ≤ n ∧ n ≤ 1 then _ else _) = _; rw [if_pos hr]
      refine Pure.of (S := tt) (fn := Try.f34) (n := 88) tt_ok Try.func34 rfl rfl rfl rfl fun w0 h0 F hgs => ?_
      (repeat first|refine A.s rfl ?_|refine A.r rfl rfl ?_|refine A.w rfl rfl ?_|refine A.p rfl ?_|refine A.b rfl fun bx=>?_|refine A.t rfl fun bl=>?_|refine A.step rfl ?_|refine A.v rfl rfl ?_)
      refine A.shift rfl rfl rfl rfl rfl rfl (by decide) ?_
      (repeat first|refine A.s rfl ?_|refine A.r rfl rfl ?_|refine A.w rfl rfl ?_|refine A.p rfl ?_|refine A.b rfl fun bx=>?_|refine A.t rfl fun bl=>?_|refine A.step rfl ?_|refine A.v rfl rfl ?_)
      refine A.valE 25 rfl (x' := AB false) (ab_eq (by show (n.fdiv 2 != 0) = false; rw [shr_zero _ _ (by decide)]; simp; omega)) ?_
      (repeat first|refine A.s rfl ?_|refine A.r rfl rfl ?_|refine A.w rfl rfl ?_|refine A.p rfl ?_|refine A.b rfl fun bx=>?_|refine A.t rfl fun bl=>?_|refine A.step rfl ?_|refine A.v rfl rfl ?_); (refine A.draw 20 [0, 1, 2, 3, 4, 5, 6, 7, 8, 9, 10, 11, 12, 13, 14, 15, 16, 17, 18, 19] noPubs [] (by kernel_rfl) (by kernel_rfl) ?_; (repeat first|refine WA.s rfl ?_|refine WA.r rfl rfl ?_|refine WA.p rfl ?_|refine WA.step rfl ?_|refine WA.v rfl rfl ?_); refine WA.nil (l := []) rfl ?_; (repeat first|refine A.s rfl ?_|refine A.r rfl rfl ?_|refine A.w rfl rfl ?_|refine A.p rfl ?_|refine A.b rfl fun bx=>?_|refine A.t rfl fun bl=>?_|refine A.step rfl ?_|refine A.v rfl rfl ?_); refine A.ret2 (Λ' := []) rfl rfl rfl rfl (List.nil_sublist _) ⟨?_, rfl⟩; rw [hpm]; refine Sb.eq (tp2_eq rfl ?_))
      rw [nil_eq, bif4]; simp
    · have hpm : partsM 3 o t n s = (0, false) := by show (if 0 ≤ n ∧ n ≤ 1 then _ else _) = _; rw [if_neg hr]
      refine Pure.of (S := tt) (fn := Try.f34) (n := 88) tt_ok Try.func34 rfl rfl rfl rfl fun w0 h0 F hgs => ?_
      (repeat first|refine A.s rfl ?_|refine A.r rfl rfl ?_|refine A.w rfl rfl ?_|refine A.p rfl ?_|refine A.b rfl fun bx=>?_|refine A.t rfl fun bl=>?_|refine A.step rfl ?_|refine A.v rfl rfl ?_)
      refine A.shift rfl rfl rfl rfl rfl rfl (by decide) ?_
      (repeat first|refine A.s rfl ?_|refine A.r rfl rfl ?_|refine A.w rfl rfl ?_|refine A.p rfl ?_|refine A.b rfl fun bx=>?_|refine A.t rfl fun bl=>?_|refine A.step rfl ?_|refine A.v rfl rfl ?_)
      refine A.valE 25 rfl (x' := AB true) (ab_eq (by show (n.fdiv 2 != 0) = true; rw [shr_zero _ _ (by decide)]; simp; omega)) ?_
      (repeat first|refine A.s rfl ?_|refine A.r rfl rfl ?_|refine A.w rfl rfl ?_|refine A.p rfl ?_|refine A.b rfl fun bx=>?_|refine A.t rfl fun bl=>?_|refine A.step rfl ?_|refine A.v rfl rfl ?_); refine A.ret2 (Λ' := []) rfl rfl rfl rfl (List.nil_sublist _) ⟨?_, rfl⟩; rw [hpm]; exact .refl
  by_cases h4 : k = 4
  · subst h4
    cases hnb : nameB s with
    | true =>
      have hpm : partsM 4 o t n s = (0, o == 0 && t == 0 && n == 0) := by show (if nameB s then _ else _) = _; rw [hnb]; rfl
      rw [hnb] at hnm
      refine Pure.of (S := tt) (fn := Try.f34) (n := 88) tt_ok Try.func34 rfl rfl rfl rfl fun w0 h0 F hgs => ?_
      (repeat first|refine A.s rfl ?_|refine A.r rfl rfl ?_|refine A.w rfl rfl ?_|refine A.p rfl ?_|refine A.b rfl fun bx=>?_|refine A.t rfl fun bl=>?_|refine A.step rfl ?_|refine A.v rfl rfl ?_); refine A.c rfl hnm .refl ?_; (repeat first|refine A.s rfl ?_|refine A.r rfl rfl ?_|refine A.w rfl rfl ?_|refine A.p rfl ?_|refine A.b rfl fun bx=>?_|refine A.t rfl fun bl=>?_|refine A.step rfl ?_|refine A.v rfl rfl ?_); (refine A.draw 20 [0, 1, 2, 3, 4, 5, 6, 7, 8, 9, 10, 11, 12, 13, 14, 15, 16, 17, 18, 19] noPubs [] (by kernel_rfl) (by kernel_rfl) ?_; (repeat first|refine WA.s rfl ?_|refine WA.r rfl rfl ?_|refine WA.p rfl ?_|refine WA.step rfl ?_|refine WA.v rfl rfl ?_); refine WA.nil (l := []) rfl ?_; (repeat first|refine A.s rfl ?_|refine A.r rfl rfl ?_|refine A.w rfl rfl ?_|refine A.p rfl ?_|refine A.b rfl fun bx=>?_|refine A.t rfl fun bl=>?_|refine A.step rfl ?_|refine A.v rfl rfl ?_); refine A.ret2 (Λ' := []) rfl rfl rfl rfl (List.nil_sublist _) ⟨?_, rfl⟩; rw [hpm]; refine Sb.eq (tp2_eq rfl ?_))
      rw [bif4]; simp
    | false =>
      have hpm : partsM 4 o t n s = (0, false) := by show (if nameB s then _ else _) = _; rw [hnb]; rfl
      rw [hnb] at hnm
      refine Pure.of (S := tt) (fn := Try.f34) (n := 88) tt_ok Try.func34 rfl rfl rfl rfl fun w0 h0 F hgs => ?_
      (repeat first|refine A.s rfl ?_|refine A.r rfl rfl ?_|refine A.w rfl rfl ?_|refine A.p rfl ?_|refine A.b rfl fun bx=>?_|refine A.t rfl fun bl=>?_|refine A.step rfl ?_|refine A.v rfl rfl ?_); refine A.c rfl hnm .refl ?_; (repeat first|refine A.s rfl ?_|refine A.r rfl rfl ?_|refine A.w rfl rfl ?_|refine A.p rfl ?_|refine A.b rfl fun bx=>?_|refine A.t rfl fun bl=>?_|refine A.step rfl ?_|refine A.v rfl rfl ?_); refine A.ret2 (Λ' := []) rfl rfl rfl rfl (List.nil_sublist _) ⟨?_, rfl⟩; rw [hpm]; exact .refl
  by_cases h9 : k = 9
  · subst h9
    cases hnb : nameB s with
    | true =>
      have hpm : partsM 9 o t n s = (0, o == 0 && t == 0 && n == 0) := by show (if nameB s then _ else _) = _; rw [hnb]; rfl
      rw [hnb] at hnm
      refine Pure.of (S := tt) (fn := Try.f34) (n := 88) tt_ok Try.func34 rfl rfl rfl rfl fun w0 h0 F hgs => ?_
      (repeat first|refine A.s rfl ?_|refine A.r rfl rfl ?_|refine A.w rfl rfl ?_|refine A.p rfl ?_|refine A.b rfl fun bx=>?_|refine A.t rfl fun bl=>?_|refine A.step rfl ?_|refine A.v rfl rfl ?_); refine A.c rfl hnm .refl ?_; (repeat first|refine A.s rfl ?_|refine A.r rfl rfl ?_|refine A.w rfl rfl ?_|refine A.p rfl ?_|refine A.b rfl fun bx=>?_|refine A.t rfl fun bl=>?_|refine A.step rfl ?_|refine A.v rfl rfl ?_); (refine A.draw 20 [0, 1, 2, 3, 4, 5, 6, 7, 8, 9, 10, 11, 12, 13, 14, 15, 16, 17, 18, 19] noPubs [] (by kernel_rfl) (by kernel_rfl) ?_; (repeat first|refine WA.s rfl ?_|refine WA.r rfl rfl ?_|refine WA.p rfl ?_|refine WA.step rfl ?_|refine WA.v rfl rfl ?_); refine WA.nil (l := []) rfl ?_; (repeat first|refine A.s rfl ?_|refine A.r rfl rfl ?_|refine A.w rfl rfl ?_|refine A.p rfl ?_|refine A.b rfl fun bx=>?_|refine A.t rfl fun bl=>?_|refine A.step rfl ?_|refine A.v rfl rfl ?_); refine A.ret2 (Λ' := []) rfl rfl rfl rfl (List.nil_sublist _) ⟨?_, rfl⟩; rw [hpm]; refine Sb.eq (tp2_eq rfl ?_))
      rw [bif4]; simp
    | false =>
      have hpm : partsM 9 o t n s = (0, false) := by show (if nameB s then _ else _) = _; rw [hnb]; rfl
      rw [hnb] at hnm
      refine Pure.of (S := tt) (fn := Try.f34) (n := 88) tt_ok Try.func34 rfl rfl rfl rfl fun w0 h0 F hgs => ?_
      (repeat first|refine A.s rfl ?_|refine A.r rfl rfl ?_|refine A.w rfl rfl ?_|refine A.p rfl ?_|refine A.b rfl fun bx=>?_|refine A.t rfl fun bl=>?_|refine A.step rfl ?_|refine A.v rfl rfl ?_); refine A.c rfl hnm .refl ?_; (repeat first|refine A.s rfl ?_|refine A.r rfl rfl ?_|refine A.w rfl rfl ?_|refine A.p rfl ?_|refine A.b rfl fun bx=>?_|refine A.t rfl fun bl=>?_|refine A.step rfl ?_|refine A.v rfl rfl ?_); refine A.ret2 (Λ' := []) rfl rfl rfl rfl (List.nil_sublist _) ⟨?_, rfl⟩; rw [hpm]; exact .refl
  by_cases h5 : k = 5
  · subst h5
    cases hnb : nameB s with
    | true =>
      have hpm : partsM 5 o t n s = (1, o == 0 && t == 0 && n == 0) := by show (if nameB s then _ else _) = _; rw [hnb]; rfl
      rw [hnb] at hnm
      refine Pure.of (S := tt) (fn := Try.f34) (n := 88) tt_ok Try.func34 rfl rfl rfl rfl fun w0 h0 F hgs => ?_
      (repeat first|refine A.s rfl ?_|refine A.r rfl rfl ?_|refine A.w rfl rfl ?_|refine A.p rfl ?_|refine A.b rfl fun bx=>?_|refine A.t rfl fun bl=>?_|refine A.step rfl ?_|refine A.v rfl rfl ?_); refine A.c rfl hnm .refl ?_; (repeat first|refine A.s rfl ?_|refine A.r rfl rfl ?_|refine A.w rfl rfl ?_|refine A.p rfl ?_|refine A.b rfl fun bx=>?_|refine A.t rfl fun bl=>?_|refine A.step rfl ?_|refine A.v rfl rfl ?_); (refine A.draw 20 [0, 1, 2, 3, 4, 5, 6, 7, 8, 9, 10, 11, 12, 13, 14, 15, 16, 17, 18, 19] noPubs [] (by kernel_rfl) (by kernel_rfl) ?_; (repeat first|refine WA.s rfl ?_|refine WA.r rfl rfl ?_|refine WA.p rfl ?_|refine WA.step rfl ?_|refine WA.v rfl rfl ?_); refine WA.nil (l := []) rfl ?_; (repeat first|refine A.s rfl ?_|refine A.r rfl rfl ?_|refine A.w rfl rfl ?_|refine A.p rfl ?_|refine A.b rfl fun bx=>?_|refine A.t rfl fun bl=>?_|refine A.step rfl ?_|refine A.v rfl rfl ?_); refine A.ret2 (Λ' := []) rfl rfl rfl rfl (List.nil_sublist _) ⟨?_, rfl⟩; rw [hpm]; refine Sb.eq (tp2_eq rfl ?_))
      rw [bif4]; simp
    | false =>
      have hpm : partsM 5 o t n s = (0, false) := by show (if nameB s then _ else _) = _; rw [hnb]; rfl
      rw [hnb] at hnm
      refine Pure.of (S := tt) (fn := Try.f34) (n := 88) tt_ok Try.func34 rfl rfl rfl rfl fun w0 h0 F hgs => ?_
      (repeat first|refine A.s rfl ?_|refine A.r rfl rfl ?_|refine A.w rfl rfl ?_|refine A.p rfl ?_|refine A.b rfl fun bx=>?_|refine A.t rfl fun bl=>?_|refine A.step rfl ?_|refine A.v rfl rfl ?_); refine A.c rfl hnm .refl ?_; (repeat first|refine A.s rfl ?_|refine A.r rfl rfl ?_|refine A.w rfl rfl ?_|refine A.p rfl ?_|refine A.b rfl fun bx=>?_|refine A.t rfl fun bl=>?_|refine A.step rfl ?_|refine A.v rfl rfl ?_); refine A.ret2 (Λ' := []) rfl rfl rfl rfl (List.nil_sublist _) ⟨?_, rfl⟩; rw [hpm]; exact .refl
  by_cases h6 : k = 6
  · subst h6
    by_cases ho1 : o < 23
    · have hpm : partsM 6 o t n s = (0, false) := by show (if 23 ≤ o ∧ o ≤ 26 then _ else _) = _; rw [if_neg (by omega)]
      refine Pure.of (S := tt) (fn := Try.f34) (n := 88) tt_ok Try.func34 rfl rfl rfl rfl fun w0 h0 F hgs => ?_
      (repeat first|refine A.s rfl ?_|refine A.r rfl rfl ?_|refine A.w rfl rfl ?_|refine A.p rfl ?_|refine A.b rfl fun bx=>?_|refine A.t rfl fun bl=>?_)
      refine A.valE 44 rfl (x' := AB true) (ab_eq (by simp; omega)) ?_
      (repeat first|refine A.s rfl ?_|refine A.r rfl rfl ?_|refine A.w rfl rfl ?_|refine A.p rfl ?_|refine A.b rfl fun bx=>?_|refine A.t rfl fun bl=>?_); refine A.ret2 (Λ' := []) rfl rfl rfl rfl (List.nil_sublist _) ⟨?_, rfl⟩; rw [hpm]; exact .refl
    have hsub : IntKind.u8.wrap (o - 23) = o - 23 := by rw [IntKind.wrap]; simp [IntKind.signed, IntKind.bits]; omega
    by_cases ho2 : o ≤ 26
    · have hpm : partsM 6 o t n s = (1, t == 0 && n == 0 && decide (s = [])) := by show (if 23 ≤ o ∧ o ≤ 26 then _ else _) = _; rw [if_pos (by omega)]
      refine Pure.of (S := tt) (fn := Try.f34) (n := 88) tt_ok Try.func34 rfl rfl rfl rfl fun w0 h0 F hgs => ?_
      (repeat first|refine A.s rfl ?_|refine A.r rfl rfl ?_|refine A.w rfl rfl ?_|refine A.p rfl ?_|refine A.b rfl fun bx=>?_|refine A.t rfl fun bl=>?_)
      refine A.valE 44 rfl (x' := AB false) (ab_eq (by simp; omega)) ?_
      (repeat first|refine A.s rfl ?_|refine A.r rfl rfl ?_|refine A.w rfl rfl ?_|refine A.p rfl ?_|refine A.b rfl fun bx=>?_|refine A.t rfl fun bl=>?_)
      refine A.valE 49 rfl (x' := AB false) (ab_eq (by rw [hsub]; simp; omega)) ?_
      (repeat first|refine A.s rfl ?_|refine A.r rfl rfl ?_|refine A.w rfl rfl ?_|refine A.p rfl ?_|refine A.b rfl fun bx=>?_|refine A.t rfl fun bl=>?_); (refine A.draw 20 [0, 1, 2, 3, 4, 5, 6, 7, 8, 9, 10, 11, 12, 13, 14, 15, 16, 17, 18, 19] noPubs [] (by kernel_rfl) (by kernel_rfl) ?_; (repeat first|refine WA.s rfl ?_|refine WA.r rfl rfl ?_|refine WA.p rfl ?_|refine WA.step rfl ?_|refine WA.v rfl rfl ?_); refine WA.nil (l := []) rfl ?_; (repeat first|refine A.s rfl ?_|refine A.r rfl rfl ?_|refine A.w rfl rfl ?_|refine A.p rfl ?_|refine A.b rfl fun bx=>?_|refine A.t rfl fun bl=>?_|refine A.step rfl ?_|refine A.v rfl rfl ?_); refine A.ret2 (Λ' := []) rfl rfl rfl rfl (List.nil_sublist _) ⟨?_, rfl⟩; rw [hpm]; refine Sb.eq (tp2_eq rfl ?_))
      rw [nil_eq, bif4]; simp
    · have hpm : partsM 6 o t n s = (0, false) := by show (if 23 ≤ o ∧ o ≤ 26 then _ else _) = _; rw [if_neg (by omega)]
      refine Pure.of (S := tt) (fn := Try.f34) (n := 88) tt_ok Try.func34 rfl rfl rfl rfl fun w0 h0 F hgs => ?_
      (repeat first|refine A.s rfl ?_|refine A.r rfl rfl ?_|refine A.w rfl rfl ?_|refine A.p rfl ?_|refine A.b rfl fun bx=>?_|refine A.t rfl fun bl=>?_)
      refine A.valE 44 rfl (x' := AB false) (ab_eq (by simp; omega)) ?_
      (repeat first|refine A.s rfl ?_|refine A.r rfl rfl ?_|refine A.w rfl rfl ?_|refine A.p rfl ?_|refine A.b rfl fun bx=>?_|refine A.t rfl fun bl=>?_)
      refine A.valE 49 rfl (x' := AB true) (ab_eq (by rw [hsub]; simp; omega)) ?_
      (repeat first|refine A.s rfl ?_|refine A.r rfl rfl ?_|refine A.w rfl rfl ?_|refine A.p rfl ?_|refine A.b rfl fun bx=>?_|refine A.t rfl fun bl=>?_); refine A.ret2 (Λ' := []) rfl rfl rfl rfl (List.nil_sublist _) ⟨?_, rfl⟩; rw [hpm]; exact .refl
  by_cases h7 : k = 7
  · subst h7
    by_cases ho1 : o < 1
    · have hpm : partsM 7 o t n s = (0, false) := by show (if 1 ≤ o ∧ o ≤ 22 then _ else _) = _; rw [if_neg (by omega)]
      refine Pure.of (S := tt) (fn := Try.f34) (n := 88) tt_ok Try.func34 rfl rfl rfl rfl fun w0 h0 F hgs => ?_
      (repeat first|refine A.s rfl ?_|refine A.r rfl rfl ?_|refine A.w rfl rfl ?_|refine A.p rfl ?_|refine A.b rfl fun bx=>?_|refine A.t rfl fun bl=>?_)
      refine A.valE 56 rfl (x' := AB true) (ab_eq (by simp; omega)) ?_
      (repeat first|refine A.s rfl ?_|refine A.r rfl rfl ?_|refine A.w rfl rfl ?_|refine A.p rfl ?_|refine A.b rfl fun bx=>?_|refine A.t rfl fun bl=>?_); refine A.ret2 (Λ' := []) rfl rfl rfl rfl (List.nil_sublist _) ⟨?_, rfl⟩; rw [hpm]; exact .refl
    by_cases ho2 : o ≤ 22
    · have hpm : partsM 7 o t n s = (2, t == 0 && n == 0 && decide (s = [])) := by show (if 1 ≤ o ∧ o ≤ 22 then _ else _) = _; rw [if_pos (by omega)]
      refine Pure.of (S := tt) (fn := Try.f34) (n := 88) tt_ok Try.func34 rfl rfl rfl rfl fun w0 h0 F hgs => ?_
      (repeat first|refine A.s rfl ?_|refine A.r rfl rfl ?_|refine A.w rfl rfl ?_|refine A.p rfl ?_|refine A.b rfl fun bx=>?_|refine A.t rfl fun bl=>?_)
      refine A.valE 56 rfl (x' := AB false) (ab_eq (by simp; omega)) ?_
      (repeat first|refine A.s rfl ?_|refine A.r rfl rfl ?_|refine A.w rfl rfl ?_|refine A.p rfl ?_|refine A.b rfl fun bx=>?_|refine A.t rfl fun bl=>?_)
      refine A.valE 60 rfl (x' := AB false) (ab_eq (by simp; omega)) ?_
      (repeat first|refine A.s rfl ?_|refine A.r rfl rfl ?_|refine A.w rfl rfl ?_|refine A.p rfl ?_|refine A.b rfl fun bx=>?_|refine A.t rfl fun bl=>?_); (refine A.draw 20 [0, 1, 2, 3, 4, 5, 6, 7, 8, 9, 10, 11, 12, 13, 14, 15, 16, 17, 18, 19] noPubs [] (by kernel_rfl) (by kernel_rfl) ?_; (repeat first|refine WA.s rfl ?_|refine WA.r rfl rfl ?_|refine WA.p rfl ?_|refine WA.step rfl ?_|refine WA.v rfl rfl ?_); refine WA.nil (l := []) rfl ?_; (repeat first|refine A.s rfl ?_|refine A.r rfl rfl ?_|refine A.w rfl rfl ?_|refine A.p rfl ?_|refine A.b rfl fun bx=>?_|refine A.t rfl fun bl=>?_|refine A.step rfl ?_|refine A.v rfl rfl ?_); refine A.ret2 (Λ' := []) rfl rfl rfl rfl (List.nil_sublist _) ⟨?_, rfl⟩; rw [hpm]; refine Sb.eq (tp2_eq rfl ?_))
      rw [nil_eq, bif4]; simp
    · have hpm : partsM 7 o t n s = (0, false) := by show (if 1 ≤ o ∧ o ≤ 22 then _ else _) = _; rw [if_neg (by omega)]
      refine Pure.of (S := tt) (fn := Try.f34) (n := 88) tt_ok Try.func34 rfl rfl rfl rfl fun w0 h0 F hgs => ?_
      (repeat first|refine A.s rfl ?_|refine A.r rfl rfl ?_|refine A.w rfl rfl ?_|refine A.p rfl ?_|refine A.b rfl fun bx=>?_|refine A.t rfl fun bl=>?_)
      refine A.valE 56 rfl (x' := AB false) (ab_eq (by simp; omega)) ?_
      (repeat first|refine A.s rfl ?_|refine A.r rfl rfl ?_|refine A.w rfl rfl ?_|refine A.p rfl ?_|refine A.b rfl fun bx=>?_|refine A.t rfl fun bl=>?_)
      refine A.valE 60 rfl (x' := AB true) (ab_eq (by simp; omega)) ?_
      (repeat first|refine A.s rfl ?_|refine A.r rfl rfl ?_|refine A.w rfl rfl ?_|refine A.p rfl ?_|refine A.b rfl fun bx=>?_|refine A.t rfl fun bl=>?_); refine A.ret2 (Λ' := []) rfl rfl rfl rfl (List.nil_sublist _) ⟨?_, rfl⟩; rw [hpm]; exact .refl
  by_cases h8 : k = 8
  · subst h8
    by_cases ht1 : 1 ≤ t ∧ t ≤ 3
    · have hpm : partsM 8 o t n s = (1, o == 0 && n == 0 && decide (s = [])) := by show (if 1 ≤ t ∧ t ≤ 3 then _ else _) = _; rw [if_pos ht1]
      refine Pure.of (S := tt) (fn := Try.f34) (n := 88) tt_ok Try.func34 rfl rfl rfl rfl fun w0 h0 F hgs => ?_
      (repeat first|refine A.s rfl ?_|refine A.r rfl rfl ?_|refine A.w rfl rfl ?_|refine A.p rfl ?_|refine A.b rfl fun bx=>?_|refine A.t rfl fun bl=>?_); refine A.c rfl hpr .refl ?_; (repeat first|refine A.s rfl ?_|refine A.r rfl rfl ?_|refine A.w rfl rfl ?_|refine A.p rfl ?_|refine A.b rfl fun bx=>?_|refine A.t rfl fun bl=>?_)
      refine A.valE 67 rfl (x' := AB false) (ab_eq (by rw [nil_eq, decide_eq_false_iff_not]; have h9 : t = 1 ∨ t = 2 ∨ t = 3 := by omega
                                                       rcases h9 with rfl | rfl | rfl <;> decide)) ?_
      (repeat first|refine A.s rfl ?_|refine A.r rfl rfl ?_|refine A.w rfl rfl ?_|refine A.p rfl ?_|refine A.b rfl fun bx=>?_|refine A.t rfl fun bl=>?_); (refine A.draw 20 [0, 1, 2, 3, 4, 5, 6, 7, 8, 9, 10, 11, 12, 13, 14, 15, 16, 17, 18, 19] noPubs [] (by kernel_rfl) (by kernel_rfl) ?_; (repeat first|refine WA.s rfl ?_|refine WA.r rfl rfl ?_|refine WA.p rfl ?_|refine WA.step rfl ?_|refine WA.v rfl rfl ?_); refine WA.nil (l := []) rfl ?_; (repeat first|refine A.s rfl ?_|refine A.r rfl rfl ?_|refine A.w rfl rfl ?_|refine A.p rfl ?_|refine A.b rfl fun bx=>?_|refine A.t rfl fun bl=>?_|refine A.step rfl ?_|refine A.v rfl rfl ?_); refine A.ret2 (Λ' := []) rfl rfl rfl rfl (List.nil_sublist _) ⟨?_, rfl⟩; rw [hpm]; refine Sb.eq (tp2_eq rfl ?_))
      rw [nil_eq, bif4]; simp
    · have hpm : partsM 8 o t n s = (0, false) := by show (if 1 ≤ t ∧ t ≤ 3 then _ else _) = _; rw [if_neg ht1]
      refine Pure.of (S := tt) (fn := Try.f34) (n := 88) tt_ok Try.func34 rfl rfl rfl rfl fun w0 h0 F hgs => ?_
      (repeat first|refine A.s rfl ?_|refine A.r rfl rfl ?_|refine A.w rfl rfl ?_|refine A.p rfl ?_|refine A.b rfl fun bx=>?_|refine A.t rfl fun bl=>?_); refine A.c rfl hpr .refl ?_; (repeat first|refine A.s rfl ?_|refine A.r rfl rfl ?_|refine A.w rfl rfl ?_|refine A.p rfl ?_|refine A.b rfl fun bx=>?_|refine A.t rfl fun bl=>?_)
      refine A.valE 67 rfl (x' := AB true) (ab_eq (by rw [nil_eq, decide_eq_true_iff]; unfold primL; rw [if_neg (by omega), if_neg (by omega), if_neg (by omega)])) ?_
      (repeat first|refine A.s rfl ?_|refine A.r rfl rfl ?_|refine A.w rfl rfl ?_|refine A.p rfl ?_|refine A.b rfl fun bx=>?_|refine A.t rfl fun bl=>?_); refine A.ret2 (Λ' := []) rfl rfl rfl rfl (List.nil_sublist _) ⟨?_, rfl⟩; rw [hpm]; exact .refl
  · have hpm : partsM k o t n s = (0, false) := by unfold partsM; rw [if_neg h1, if_neg h2, if_neg h3, if_neg (by omega), if_neg h6, if_neg h7, if_neg h8]
    refine Pure.of (S := tt) (fn := Try.f34) (n := 88) tt_ok Try.func34 rfl rfl rfl rfl fun w0 h0 F hgs => ?_
    (repeat first|first|refine A.s rfl ?_|refine A.r rfl rfl ?_|refine A.w rfl rfl ?_|refine A.p rfl ?_|refine A.b rfl fun bx=>?_|refine A.t rfl fun bl=>?_|refine A.cond rfl (fun h => (by simp at h; omega)) (fun _ => ?_))
    refine A.ret2 (Λ' := []) rfl rfl rfl rfl (List.nil_sublist _) ⟨?_, rfl⟩; rw [hpm]; exact .refl

/-! ### May -/
def shapeX (e : XE) : Bool := (partsM e.kind e.oper e.to e.n e.s).2 && decide ((e.l.length : Int) = (partsM e.kind e.oper e.to e.n e.s).1)
mutual
def szX : XE → Nat
  | ⟨_, _, _, _, _, l⟩ => 1 + szXl l
def szXl : List XE → Nat
  | [] => 0
  | e :: r => szX e + szXl r
end
mutual
def htX : XE → Nat
  | ⟨_, _, _, _, _, l⟩ => 1 + htXl l
def htXl : List XE → Nat
  | [] => 0
  | e :: r => max (htX e) (htXl r)
end
mutual
def fineX : XE → Bool
  | ⟨k, o, t, n, s, l⟩ => shapeX ⟨k, o, t, n, s, l⟩ && fineXl l
def fineXl : List XE → Bool
  | [] => true
  | e :: r => fineX e && fineXl r
end
theorem szX_eq (e : XE) : szX e = 1 + szXl e.l := by obtain ⟨k, o, t, n, s, l⟩ := e; rw [szX]
theorem htX_eq (e : XE) : htX e = 1 + htXl e.l := by obtain ⟨k, o, t, n, s, l⟩ := e; rw [htX]
theorem fineX_eq (e : XE) : fineX e = (shapeX e && fineXl e.l) := by obtain ⟨k, o, t, n, s, l⟩ := e; rw [fineX]
theorem szX_pos (e : XE) : 1 ≤ szX e := by rw [szX_eq]; omega
theorem htX_pos (e : XE) : 1 ≤ htX e := by rw [htX_eq]; omega
def fitsX (e : XE) (room deep : Int) : Prop := fineX e = true ∧ (szX e : Int) ≤ room ∧ (htX e : Int) ≤ deep
instance (e : XE) (room deep : Int) : Decidable (fitsX e room deep) := by unfold fitsX; infer_instance
abbrev validX (e : XE) : Prop := fitsX e 256 32
/-- the parts, one behind the other -/
def fitsXl (l : List XE) (room deep : Int) : Prop := fineXl l = true ∧ (szXl l : Int) ≤ room ∧ (htXl l : Int) ≤ deep
instance (l : List XE) (room deep : Int) : Decidable (fitsXl l room deep) := by unfold fitsXl; infer_instance
theorem fitsX_l {e : XE} {room deep : Int} (hr : 1 ≤ room) (hd : 1 ≤ deep) (hs : shapeX e = true) : fitsX e room deep ↔ fitsXl e.l (room - 1) (deep - 1) := by
  unfold fitsX fitsXl
  rw [fineX_eq, hs, Bool.true_and, szX_eq, htX_eq]
  constructor
  · rintro ⟨h1, h2, h3⟩; exact ⟨h1, by omega, by omega⟩
  · rintro ⟨h1, h2, h3⟩; exact ⟨h1, by omega, by omega⟩
theorem fitsX_no {e : XE} {r d : Int} (h : r < 1 ∨ d < 1 ∨ shapeX e = false) : ¬ fitsX e r d := by
  rintro ⟨h1, h2, h3⟩
  have := szX_pos e
  have := htX_pos e
  rcases h with h | h | h
  · omega
  · omega
  · rw [fineX_eq, h] at h1; cases h1
theorem szXl_append (a b : List XE) : szXl (a ++ b) = szXl a + szXl b := by
  induction a with
  | nil => simp [szXl]
  | cons x r ih => rw [List.cons_append, szXl, szXl, ih]; omega
theorem htXl_append (a b : List XE) : htXl (a ++ b) = max (htXl a) (htXl b) := by
  induction a with
  | nil => simp [htXl]
  | cons x r ih => rw [List.cons_append, htXl, htXl, ih]; omega
theorem fineXl_append (a b : List XE) : fineXl (a ++ b) = (fineXl a && fineXl b) := by
  induction a with
  | nil => simp [fineXl]
  | cons x r ih => rw [List.cons_append, fineXl, fineXl, ih, Bool.and_assoc]
theorem fitsXl_snoc {a : List XE} {x : XE} {room deep : Int} (ha : fitsXl a room deep) : fitsXl (a ++ [x]) room deep ↔ fitsX x (room - szXl a) deep := by
  obtain ⟨h1, h2, h3⟩ := ha
  unfold fitsXl fitsX
  rw [fineXl_append, szXl_append, htXl_append, h1, Bool.true_and]
  simp only [fineXl, szXl, htXl, Bool.and_true]
  constructor
  · rintro ⟨g1, g2, g3⟩; exact ⟨g1, by omega, by omega⟩
  · rintro ⟨g1, g2, g3⟩; exact ⟨g1, by omega, by omega⟩
theorem fitsXl_take {l : List XE} {room deep : Int} (h : fitsXl l room deep) (i : Nat) : fitsXl (l.take i) room deep := by
  obtain ⟨h1, h2, h3⟩ := h
  rw [← List.take_append_drop i l] at h1 h2 h3
  rw [fineXl_append, Bool.and_eq_true] at h1
  rw [szXl_append] at h2
  rw [htXl_append] at h3
  exact ⟨h1.1, by omega, by omega⟩
end Go.Proofs.Ytbdjbmbghfbenaa
