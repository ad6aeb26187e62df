/-
  Chapter 17: small functions of the law.
-/
import Derived.Test.YtbdjbmbghfbenaaQ17c
import Derived.Test.YtbdjbmbghfbenaaQ17e

namespace Go.Proofs.Ytbdjbmbghfbenaa
open Go Go.Tp
set_option linter.unusedVariables false
set_option linter.unusedSimpArgs false
set_option maxRecDepth 100000
set_option maxHeartbeats 4000000

abbrev numE (n : Int) : KE := ⟨1, 0, 0, n, 0, []⟩
abbrev varE (v : Int) : KE := ⟨2, 0, 0, 0, v, []⟩
abbrev elemE (v : Int) (e : KE) : KE := ⟨3, 0, 0, 0, v, [e]⟩
abbrev notE (e : KE) : KE := ⟨4, 26, 0, 0, 0, [e]⟩
abbrev twoE (o : Int) (a b : KE) : KE := ⟨5, o, 0, 0, 0, [a, b]⟩
theorem number_p (n : Int) : Pure Try.prog gs0 11 [AI32 n] (encK (numE n)) := by
  simp only [encK, encKl]
  refine Pure.of (S := tt) (fn := Try.f11) (n := 5) tt_ok Try.func11 rfl rfl rfl rfl fun w0 h0 F hgs => ?_
  (repeat first|refine A.s rfl ?_|refine A.r rfl rfl ?_|refine A.w rfl rfl ?_|refine A.p rfl ?_|refine A.b rfl fun bx=>?_|refine A.t rfl fun bl=>?_|refine A.step rfl ?_|refine A.v rfl rfl ?_); refine A.retC (Λ' := []) rfl rfl rfl rfl rfl (List.nil_sublist _) ⟨?_, rfl⟩; (repeat (first | exact Sb.refl | exact SbL.refl | refine SbL.cons ?_ ?_ | exact Sb.nil | exact Sb.own1 | refine Sb.own ?_ | refine Sb.ag ?_ | refine Sb.tp ?_))
theorem variable_p (v : Int) : Pure Try.prog gs0 9 [AI v] (encK (varE v)) := by
  simp only [encK, encKl]
  refine Pure.of (S := tt) (fn := Try.f9) (n := 5) tt_ok Try.func9 rfl rfl rfl rfl fun w0 h0 F hgs => ?_
  (repeat first|refine A.s rfl ?_|refine A.r rfl rfl ?_|refine A.w rfl rfl ?_|refine A.p rfl ?_|refine A.b rfl fun bx=>?_|refine A.t rfl fun bl=>?_|refine A.step rfl ?_|refine A.v rfl rfl ?_); refine A.retC (Λ' := []) rfl rfl rfl rfl rfl (List.nil_sublist _) ⟨?_, rfl⟩; (repeat (first | exact Sb.refl | exact SbL.refl | refine SbL.cons ?_ ?_ | exact Sb.nil | exact Sb.own1 | refine Sb.own ?_ | refine Sb.ag ?_ | refine Sb.tp ?_))
theorem element_p (v : Int) (e : KE) : Pure Try.prog gs0 14 [AI v, encK e] (encK (elemE v e)) := by
  have h : encK (elemE v e) = .ag [AU8 3, AU8 0, AU8 0, AI32 0, AI v, .sl 6 [encK e] none] := by simp only [elemE, encK, encKl]
  rw [h, encK_eq]
  refine Pure.of (S := tt) (fn := Try.f14) (n := 9) tt_ok Try.func14 rfl rfl rfl rfl fun w0 h0 F hgs => ?_
  (repeat first|refine A.s rfl ?_|refine A.r rfl rfl ?_|refine A.w rfl rfl ?_|refine A.p rfl ?_|refine A.b rfl fun bx=>?_|refine A.t rfl fun bl=>?_|refine A.step rfl ?_|refine A.v rfl rfl ?_); refine A.retC (Λ' := []) rfl rfl rfl rfl rfl (List.nil_sublist _) ⟨?_, rfl⟩
  (repeat (first | exact Sb.refl | exact SbL.refl | refine SbL.cons ?_ ?_ | exact Sb.nil | exact Sb.own1 | refine Sb.own ?_ | refine Sb.ag ?_ | refine Sb.tp ?_))
theorem two_p (o : Int) (a b : KE) : Pure Try.prog gs0 10 [AU8 o, encK a, encK b] (encK (twoE o a b)) := by
  have h : encK (twoE o a b) = .ag [AU8 5, AU8 o, AU8 0, AI32 0, AI 0, .sl 6 [encK a, encK b] none] := by simp only [twoE, encK, encKl]
  rw [h, encK_eq a, encK_eq b]
  refine Pure.of (S := tt) (fn := Try.f10) (n := 12) tt_ok Try.func10 rfl rfl rfl rfl fun w0 h0 F hgs => ?_
  (repeat first|refine A.s rfl ?_|refine A.r rfl rfl ?_|refine A.w rfl rfl ?_|refine A.p rfl ?_|refine A.b rfl fun bx=>?_|refine A.t rfl fun bl=>?_|refine A.step rfl ?_|refine A.v rfl rfl ?_); refine A.retC (Λ' := []) rfl rfl rfl rfl rfl (List.nil_sublist _) ⟨?_, rfl⟩
  (repeat (first | exact Sb.refl | exact SbL.refl | refine SbL.cons ?_ ?_ | exact Sb.nil | exact Sb.own1 | refine Sb.own ?_ | refine Sb.ag ?_ | refine Sb.tp ?_))
theorem is_p (s : List (List Int)) (hs : wfS s) (e : KE) (hw : wfK e) (want : Int) : Pure Try.prog gs0 8 [rowsA s, encK e, AI32 want] (AB (decide (valueM s e = some want))) := by
  have hp := Value_p s hs e hw
  rw [encK_eq] at hp ⊢
  cases h : valueM s e with
  | none =>
    rw [h] at hp
    refine Pure.of (S := tt) (fn := Try.f8) (n := 21) tt_ok Try.func8 rfl rfl rfl rfl fun w0 h0 F hgs => ?_
    (repeat first|refine A.s rfl ?_|refine A.r rfl rfl ?_|refine A.w rfl rfl ?_|refine A.p rfl ?_|refine A.b rfl fun bx=>?_|refine A.t rfl fun bl=>?_|refine A.step rfl ?_|refine A.v rfl rfl ?_); refine A.c rfl (hp) .refl ?_; (repeat first|refine A.s rfl ?_|refine A.r rfl rfl ?_|refine A.w rfl rfl ?_|refine A.p rfl ?_|refine A.b rfl fun bx=>?_|refine A.t rfl fun bl=>?_|refine A.step rfl ?_|refine A.v rfl rfl ?_); refine A.ret1 (Λ' := []) rfl rfl rfl (List.nil_sublist _) ⟨?_, rfl⟩; refine Sb.eq (ab_eq ?_); simp
  | some x =>
    rw [h] at hp
    refine Pure.of (S := tt) (fn := Try.f8) (n := 21) tt_ok Try.func8 rfl rfl rfl rfl fun w0 h0 F hgs => ?_
    (repeat first|refine A.s rfl ?_|refine A.r rfl rfl ?_|refine A.w rfl rfl ?_|refine A.p rfl ?_|refine A.b rfl fun bx=>?_|refine A.t rfl fun bl=>?_|refine A.step rfl ?_|refine A.v rfl rfl ?_); refine A.c rfl (hp) .refl ?_; (repeat first|refine A.s rfl ?_|refine A.r rfl rfl ?_|refine A.w rfl rfl ?_|refine A.p rfl ?_|refine A.b rfl fun bx=>?_|refine A.t rfl fun bl=>?_|refine A.step rfl ?_|refine A.v rfl rfl ?_); refine A.ret1 (Λ' := []) rfl rfl rfl (List.nil_sublist _) ⟨?_, rfl⟩; refine Sb.eq (ab_eq ?_); simp; rfl
theorem faults_p (s : List (List Int)) (hs : wfS s) (e : KE) (hw : wfK e) : Pure Try.prog gs0 15 [rowsA s, encK e] (AB (decide (valueM s e = none))) := by
  have hp := Value_p s hs e hw
  rw [encK_eq] at hp ⊢
  cases h : valueM s e with
  | none =>
    rw [h] at hp
    refine Pure.of (S := tt) (fn := Try.f15) (n := 19) tt_ok Try.func15 rfl rfl rfl rfl fun w0 h0 F hgs => ?_
    (repeat first|refine A.s rfl ?_|refine A.r rfl rfl ?_|refine A.w rfl rfl ?_|refine A.p rfl ?_|refine A.b rfl fun bx=>?_|refine A.t rfl fun bl=>?_|refine A.step rfl ?_|refine A.v rfl rfl ?_); refine A.c rfl (hp) .refl ?_; (repeat first|refine A.s rfl ?_|refine A.r rfl rfl ?_|refine A.w rfl rfl ?_|refine A.p rfl ?_|refine A.b rfl fun bx=>?_|refine A.t rfl fun bl=>?_|refine A.step rfl ?_|refine A.v rfl rfl ?_); refine A.ret1 (Λ' := []) rfl rfl rfl (List.nil_sublist _) ⟨?_, rfl⟩; refine Sb.eq (ab_eq ?_); simp
  | some x =>
    rw [h] at hp
    refine Pure.of (S := tt) (fn := Try.f15) (n := 19) tt_ok Try.func15 rfl rfl rfl rfl fun w0 h0 F hgs => ?_
    (repeat first|refine A.s rfl ?_|refine A.r rfl rfl ?_|refine A.w rfl rfl ?_|refine A.p rfl ?_|refine A.b rfl fun bx=>?_|refine A.t rfl fun bl=>?_|refine A.step rfl ?_|refine A.v rfl rfl ?_); refine A.c rfl (hp) .refl ?_; (repeat first|refine A.s rfl ?_|refine A.r rfl rfl ?_|refine A.w rfl rfl ?_|refine A.p rfl ?_|refine A.b rfl fun bx=>?_|refine A.t rfl fun bl=>?_|refine A.step rfl ?_|refine A.v rfl rfl ?_); refine A.ret1 (Λ' := []) rfl rfl rfl (List.nil_sublist _) ⟨?_, rfl⟩; refine Sb.eq (ab_eq ?_); simp

/-! ### great -/
def lens (s : List (List Int)) : Nat := (s.map List.length).sum
def greatN (s : List (List Int)) (i : Nat) : Nat := s.length + lens (s.take i)
def greatB (s : List (List Int)) : Bool := decide (600 < greatN s 300)
theorem lens_take (s : List (List Int)) (i : Nat) (r : List Int) (h : s[i]? = some r) : greatN s (i + 1) = greatN s i + r.length := by
  unfold greatN lens; rw [List.take_add_one, h]; simp; omega
theorem great_le {s : List (List Int)} (hb : short s) : ∀ i, greatN s i ≤ 281474976710656 + i * 281474976710656
  | 0 => by simp [greatN, lens]; exact hb.1
  | i + 1 => by
    have ih := great_le hb i
    cases h : s[i]? with
    | none =>
      have : greatN s (i + 1) = greatN s i := by unfold greatN; rw [List.take_add_one, h]; simp
      omega
    | some r =>
      have := lens_take s i r h
      have := hb.2 r (List.mem_of_getElem? h)
      omega
theorem great_min (s : List (List Int)) : greatN s (min s.length 300) = greatN s 300 := by
  unfold greatN; congr 2
  rcases Nat.le_total s.length 300 with h | h
  · rw [Nat.min_eq_left h, List.take_length, List.take_of_length_le h]
  · rw [Nat.min_eq_right h]
theorem great_p (s : List (List Int)) (hb : short s) : Pure Try.prog gs0 4 [rowsA s] (AB (greatB s)) := by
  have hl : ((s.map rowA).length : Int) = s.length := by rw [List.length_map]
  refine Pure.of (S := tt) (fn := Try.f4) (n := 23) tt_ok Try.func4 rfl rfl rfl rfl fun w0 h0 F hgs => ?_
  (repeat first|refine A.s rfl ?_|refine A.r rfl rfl ?_|refine A.w rfl rfl ?_|refine A.p rfl ?_|refine A.b rfl fun bx=>?_|refine A.t rfl fun bl=>?_|refine A.step rfl ?_|refine A.v rfl rfl ?_)
  refine A.valE 3 rfl (x' := AI (greatN s 0 : Nat)) (ai_eq (by rw [hl]; simp [greatN, lens])) ?_
  refine A.valE 9 rfl (x' := AI (min s.length 300 : Nat)) (ai_eq (by rw [hl]; split <;> omega)) ?_
  refine A.keep [0, 3, 9, 10] rfl ?_
  refine A.loopP (ι := Nat) (fun i => (⟨[(0, rowsA s), (3, AI (greatN s i : Nat)), (9, AI (min s.length 300 : Nat)), (10, AI (i : Int))], []⟩, [])) (fun i => i ≤ min s.length 300) (fun i => 300 - i) 0 (by omega) rfl fun i hi ih => ?_
  have hg := great_le hb i
  (repeat first|refine A.s rfl ?_|refine A.r rfl rfl ?_|refine A.w rfl rfl ?_|refine A.p rfl ?_|refine A.b rfl fun bx=>?_|refine A.t rfl fun bl=>?_|refine A.step rfl ?_|refine A.v rfl rfl ?_)
  refine A.cond rfl (fun hc => ?_) (fun hc => ?_)
  · simp at hc
    refine Exists.elim (at_exN (l := s) (i := i) (by omega)) fun r hr => ?_
    (repeat first|refine A.s rfl ?_|refine A.r rfl rfl ?_|refine A.w rfl rfl ?_|refine A.p rfl ?_|refine A.b rfl fun bx=>?_|refine A.t rfl fun bl=>?_|refine A.step rfl ?_|refine A.v rfl rfl ?_)
    refine A.x rfl (by omega) (map_at hr) rfl rfl ?_
    (repeat first|refine A.s rfl ?_|refine A.r rfl rfl ?_|refine A.w rfl rfl ?_|refine A.p rfl ?_|refine A.b rfl fun bx=>?_|refine A.t rfl fun bl=>?_|refine A.step rfl ?_|refine A.v rfl rfl ?_)
    have h3 := lens_take s i r hr
    have hr2 := hb.2 r (List.mem_of_getElem? hr)
    refine A.valE 3 rfl (x' := AI (greatN s (i + 1) : Nat)) (ai_eq ?_) ?_
    · simp only [List.length_map]; rw [wr64 _ (by omega)]; omega
    refine A.valE 10 rfl (x' := AI ((i + 1 : Nat) : Int)) (inc_eq i (by omega)) ?_
    refine A.sub (by repeat (first | exact trivial | refine ⟨⟨_, rfl, .refl⟩, ?_⟩)) (ih (i + 1) (by omega) (by omega))
  · simp at hc
    (repeat first|refine A.s rfl ?_|refine A.r rfl rfl ?_|refine A.w rfl rfl ?_|refine A.p rfl ?_|refine A.b rfl fun bx=>?_|refine A.t rfl fun bl=>?_|refine A.step rfl ?_|refine A.v rfl rfl ?_); refine A.ret1 (Λ' := []) rfl rfl rfl (List.nil_sublist _) ⟨?_, rfl⟩
    have : i = min s.length 300 := by omega
    subst this
    rw [great_min]; refine Sb.eq (ab_eq ?_); simp [greatB]; omega

/-! ### Place -/
abbrev encP (v : Int) (l : List KE) : AV := .ag [AI v, .sl 6 (encKl l) none]
def placeM (s : List (List Int)) (v : Int) : List KE → Option (Int × Int)
  | [] => if (atM s v 0).isSome then some (v, 0) else none
  | [e] => match valueM s e with
    | some x => if (atM s v x).isSome then some (v, x) else none
    | none => none
  | _ => none
abbrev optP (x : Option (Int × Int)) : AV := .tp [AI (x.getD (0, 0)).1, AI (x.getD (0, 0)).2, AB x.isSome]
theorem Place_p (s : List (List Int)) (hs : wfS s) (v : Int) (l : List KE) (hw : wfKl l) (hn : l.length ≤ 281474976710656) : Pure Try.prog gs0 12 [rowsA s, encP v l] (optP (placeM s v l)) := by
  have hl := encKl_len l
  match l, hw, hn, hl with
  | [], hw, hn, hl =>
    unfold placeM
    cases h : atM s v 0 with
    | none =>
      have hp := at_p s v 0
      rw [h] at hp
      refine Pure.of (S := tt) (fn := Try.f12) (n := 42) tt_ok Try.func12 rfl rfl rfl rfl fun w0 h0 F hgs => ?_
      (repeat first|refine A.s rfl ?_|refine A.r rfl rfl ?_|refine A.w rfl rfl ?_|refine A.p rfl ?_|refine A.b rfl fun bx=>?_|refine A.t rfl fun bl=>?_|refine A.step rfl ?_|refine A.v rfl rfl ?_); refine A.c rfl (hp) .refl ?_; (repeat first|refine A.s rfl ?_|refine A.r rfl rfl ?_|refine A.w rfl rfl ?_|refine A.p rfl ?_|refine A.b rfl fun bx=>?_|refine A.t rfl fun bl=>?_|refine A.step rfl ?_|refine A.v rfl rfl ?_); refine A.ret3 (Λ' := []) rfl rfl rfl rfl rfl (List.nil_sublist _) ⟨?_, rfl⟩; exact .refl
    | some y =>
      have hp := at_p s v 0
      rw [h] at hp
      refine Pure.of (S := tt) (fn := Try.f12) (n := 42) tt_ok Try.func12 rfl rfl rfl rfl fun w0 h0 F hgs => ?_
      (repeat first|refine A.s rfl ?_|refine A.r rfl rfl ?_|refine A.w rfl rfl ?_|refine A.p rfl ?_|refine A.b rfl fun bx=>?_|refine A.t rfl fun bl=>?_|refine A.step rfl ?_|refine A.v rfl rfl ?_); refine A.c rfl (hp) .refl ?_; (repeat first|refine A.s rfl ?_|refine A.r rfl rfl ?_|refine A.w rfl rfl ?_|refine A.p rfl ?_|refine A.b rfl fun bx=>?_|refine A.t rfl fun bl=>?_|refine A.step rfl ?_|refine A.v rfl rfl ?_); refine A.ret3 (Λ' := []) rfl rfl rfl rfl rfl (List.nil_sublist _) ⟨?_, rfl⟩; exact .refl
  | [e], hw, hn, hl =>
    unfold placeM
    simp only [wfKl] at hw
    have hv := Value_p s hs e hw.1
    rw [encK_eq] at hv
    simp only [encP, encKl]
    cases hx : valueM s e with
    | none =>
      rw [hx] at hv
      refine Pure.of (S := tt) (fn := Try.f12) (n := 42) tt_ok Try.func12 rfl rfl rfl rfl fun w0 h0 F hgs => ?_
      (repeat first|refine A.s rfl ?_|refine A.r rfl rfl ?_|refine A.w rfl rfl ?_|refine A.p rfl ?_|refine A.b rfl fun bx=>?_|refine A.t rfl fun bl=>?_|refine A.step rfl ?_|refine A.v rfl rfl ?_)
      refine A.x rfl (by decide) rfl rfl rfl ?_
      refine A.valE 20 rfl (pe_enc e) ?_
      (repeat first|refine A.s rfl ?_|refine A.r rfl rfl ?_|refine A.w rfl rfl ?_|refine A.p rfl ?_|refine A.b rfl fun bx=>?_|refine A.t rfl fun bl=>?_|refine A.step rfl ?_|refine A.v rfl rfl ?_); refine A.c rfl (hv) .refl ?_; (repeat first|refine A.s rfl ?_|refine A.r rfl rfl ?_|refine A.w rfl rfl ?_|refine A.p rfl ?_|refine A.b rfl fun bx=>?_|refine A.t rfl fun bl=>?_|refine A.step rfl ?_|refine A.v rfl rfl ?_); refine A.ret3 (Λ' := []) rfl rfl rfl rfl rfl (List.nil_sublist _) ⟨?_, rfl⟩; exact .refl
    | some x =>
      rw [hx] at hv
      have hxi := valueM_in hs hw.1 x hx
      cases h : atM s v x with
      | none =>
        have hp := at_p s v x
        rw [h] at hp
        simp only [h]
        refine Pure.of (S := tt) (fn := Try.f12) (n := 42) tt_ok Try.func12 rfl rfl rfl rfl fun w0 h0 F hgs => ?_
        (repeat first|refine A.s rfl ?_|refine A.r rfl rfl ?_|refine A.w rfl rfl ?_|refine A.p rfl ?_|refine A.b rfl fun bx=>?_|refine A.t rfl fun bl=>?_|refine A.step rfl ?_|refine A.v rfl rfl ?_)
        refine A.x rfl (by decide) rfl rfl rfl ?_
        refine A.valE 20 rfl (pe_enc e) ?_
        (repeat first|refine A.s rfl ?_|refine A.r rfl rfl ?_|refine A.w rfl rfl ?_|refine A.p rfl ?_|refine A.b rfl fun bx=>?_|refine A.t rfl fun bl=>?_|refine A.step rfl ?_|refine A.v rfl rfl ?_); refine A.c rfl (hv) .refl ?_; (repeat first|refine A.s rfl ?_|refine A.r rfl rfl ?_|refine A.w rfl rfl ?_|refine A.p rfl ?_|refine A.b rfl fun bx=>?_|refine A.t rfl fun bl=>?_|refine A.step rfl ?_|refine A.v rfl rfl ?_)
        refine A.valE 33 rfl (x' := AI x) (ai_eq (w64_32 hxi)) ?_
        refine A.c rfl (hp) .refl ?_; (repeat first|refine A.s rfl ?_|refine A.r rfl rfl ?_|refine A.w rfl rfl ?_|refine A.p rfl ?_|refine A.b rfl fun bx=>?_|refine A.t rfl fun bl=>?_|refine A.step rfl ?_|refine A.v rfl rfl ?_); refine A.ret3 (Λ' := []) rfl rfl rfl rfl rfl (List.nil_sublist _) ⟨?_, rfl⟩; exact .refl
      | some y =>
        have hp := at_p s v x
        rw [h] at hp
        simp only [h]
        refine Pure.of (S := tt) (fn := Try.f12) (n := 42) tt_ok Try.func12 rfl rfl rfl rfl fun w0 h0 F hgs => ?_
        (repeat first|refine A.s rfl ?_|refine A.r rfl rfl ?_|refine A.w rfl rfl ?_|refine A.p rfl ?_|refine A.b rfl fun bx=>?_|refine A.t rfl fun bl=>?_|refine A.step rfl ?_|refine A.v rfl rfl ?_)
        refine A.x rfl (by decide) rfl rfl rfl ?_
        refine A.valE 20 rfl (pe_enc e) ?_
        (repeat first|refine A.s rfl ?_|refine A.r rfl rfl ?_|refine A.w rfl rfl ?_|refine A.p rfl ?_|refine A.b rfl fun bx=>?_|refine A.t rfl fun bl=>?_|refine A.step rfl ?_|refine A.v rfl rfl ?_); refine A.c rfl (hv) .refl ?_; (repeat first|refine A.s rfl ?_|refine A.r rfl rfl ?_|refine A.w rfl rfl ?_|refine A.p rfl ?_|refine A.b rfl fun bx=>?_|refine A.t rfl fun bl=>?_|refine A.step rfl ?_|refine A.v rfl rfl ?_)
        refine A.valE 33 rfl (x' := AI x) (ai_eq (w64_32 hxi)) ?_
        refine A.valE 5 rfl (x' := AI x) (ai_eq (w64_32 hxi)) ?_
        refine A.c rfl (hp) .refl ?_; (repeat first|refine A.s rfl ?_|refine A.r rfl rfl ?_|refine A.w rfl rfl ?_|refine A.p rfl ?_|refine A.b rfl fun bx=>?_|refine A.t rfl fun bl=>?_|refine A.step rfl ?_|refine A.v rfl rfl ?_); refine A.ret3 (Λ' := []) rfl rfl rfl rfl rfl (List.nil_sublist _) ⟨?_, rfl⟩; exact .refl
  | e :: b :: r, hw, hn, hl =>
    unfold placeM
    refine Pure.of (S := tt) (fn := Try.f12) (n := 42) tt_ok Try.func12 rfl rfl rfl rfl fun w0 h0 F hgs => ?_
    (repeat first|refine A.s rfl ?_|refine A.r rfl rfl ?_|refine A.w rfl rfl ?_|refine A.p rfl ?_|refine A.b rfl fun bx=>?_|refine A.t rfl fun bl=>?_|refine A.step rfl ?_|refine A.v rfl rfl ?_); refine A.ret3 (Λ' := []) rfl rfl rfl rfl rfl (List.nil_sublist _) ⟨?_, rfl⟩; exact .refl
end Go.Proofs.Ytbdjbmbghfbenaa
