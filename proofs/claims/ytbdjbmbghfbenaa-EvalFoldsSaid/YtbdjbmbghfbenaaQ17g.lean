/-
  Chapter 17: sound variables, May, Store.
-/
import Derived.Test.YtbdjbmbghfbenaaQ17f
import Derived.Test.YtbdjbmbghfbenaaQ0i

namespace Go.Proofs.Ytbdjbmbghfbenaa
open Go Go.Tp
set_option linter.unusedVariables false
set_option linter.unusedSimpArgs false
set_option maxRecDepth 100000
set_option maxHeartbeats 4000000

theorem idx32_p (f : FuncId) (c : List AV) (p : Int → Bool) (hcb : ∀ x, Pure Try.prog gs0 f (AI32 x :: c) (AB (p x))) (l : List Int) (hb : l.length ≤ 281474976710656) :
    Pure Try.prog gs0 45 [rowA l, .fn f [] c] (AI (idxF p l 0)) := by
  refine Pure.of (S := tt) (fn := Try.f45) (n := 19) tt_ok Try.func45 rfl rfl rfl rfl fun w0 h0 F hgs => ?_
  ((repeat first|refine A.s rfl ?_|refine A.r rfl rfl ?_|refine A.w rfl rfl ?_|refine A.p rfl ?_|refine A.b rfl fun bx=>?_|refine A.t rfl fun bl=>?_|refine A.step rfl ?_|refine A.v rfl rfl ?_); refine A.valE 7 rfl (x' := AI (l.length : Nat)) (ai_eq (by rw [List.length_map])) ?_)
  refine A.keep [0, 1, 7, 8] rfl ?_
  refine A.loopP (ι := Nat) (fun i => (⟨[(0, rowA l), (1, .fn f [] c), (7, AI (l.length : Nat)), (8, AI (i : Int))], []⟩, [])) (fun i => i ≤ l.length ∧ idxF p l 0 = idxF p (l.drop i) i) (fun i => l.length - i) 0 ⟨by omega, rfl⟩ rfl fun i hi ih => ?_
  (repeat first|refine A.s rfl ?_|refine A.r rfl rfl ?_|refine A.w rfl rfl ?_|refine A.p rfl ?_|refine A.b rfl fun bx=>?_|refine A.t rfl fun bl=>?_|refine A.step rfl ?_|refine A.v rfl rfl ?_)
  refine A.cond rfl (fun hc => ?_) (fun hc => ?_)
  · simp at hc
    refine Exists.elim (at_exN (l := l) (i := i) hc) fun x hx => ?_
    (repeat first|refine A.s rfl ?_|refine A.r rfl rfl ?_|refine A.w rfl rfl ?_|refine A.p rfl ?_|refine A.b rfl fun bx=>?_|refine A.t rfl fun bl=>?_|refine A.step rfl ?_|refine A.v rfl rfl ?_)
    refine A.x rfl (by omega) (map_at hx) rfl rfl ?_
    (repeat first|refine A.s rfl ?_|refine A.r rfl rfl ?_|refine A.w rfl rfl ?_|refine A.p rfl ?_|refine A.b rfl fun bx=>?_|refine A.t rfl fun bl=>?_|refine A.step rfl ?_|refine A.v rfl rfl ?_)
    refine A.c rfl (hcb x) SbL.refl ?_
    have h1 := hi.2
    rw [drop_at hx, idxF] at h1
    cases hp : p x with
    | true =>
      rw [hp] at h1
      (repeat first|refine A.s rfl ?_|refine A.r rfl rfl ?_|refine A.w rfl rfl ?_|refine A.p rfl ?_|refine A.b rfl fun bx=>?_|refine A.t rfl fun bl=>?_|refine A.step rfl ?_|refine A.v rfl rfl ?_); refine A.ret1 (Λ' := []) rfl rfl rfl (List.nil_sublist _) ⟨?_, rfl⟩; rw [h1]; exact .refl
    | false =>
      rw [hp] at h1
      (repeat first|refine A.s rfl ?_|refine A.r rfl rfl ?_|refine A.w rfl rfl ?_|refine A.p rfl ?_|refine A.b rfl fun bx=>?_|refine A.t rfl fun bl=>?_|refine A.step rfl ?_|refine A.v rfl rfl ?_)
      refine A.valE 8 rfl (x' := AI ((i + 1 : Nat) : Int)) (inc_eq i (by omega)) ?_
      refine A.sub (by repeat (first | exact trivial | refine ⟨⟨_, rfl, .refl⟩, ?_⟩)) (ih (i + 1) ⟨by omega, h1⟩ (by omega))
  · simp at hc
    have : i = l.length := by omega
    subst this
    (repeat first|refine A.s rfl ?_|refine A.r rfl rfl ?_|refine A.w rfl rfl ?_|refine A.p rfl ?_|refine A.b rfl fun bx=>?_|refine A.t rfl fun bl=>?_|refine A.step rfl ?_|refine A.v rfl rfl ?_); refine A.ret1 (Λ' := []) rfl rfl rfl (List.nil_sublist _) ⟨?_, rfl⟩; rw [hi.2, List.drop_length]; exact .refl
theorem has32_p (f : FuncId) (c : List AV) (p : Int → Bool) (hcb : ∀ x, Pure Try.prog gs0 f (AI32 x :: c) (AB (p x))) (l : List Int) (hb : l.length ≤ 281474976710656) :
    Pure Try.prog gs0 30 [rowA l, .fn f [] c] (AB (l.any p)) := by
  refine Pure.of (S := tt) (fn := Try.f30) (n := 9) tt_ok Try.func30 rfl rfl rfl rfl fun w0 h0 F hgs => ?_
  (repeat first|refine A.s rfl ?_|refine A.r rfl rfl ?_|refine A.w rfl rfl ?_|refine A.p rfl ?_|refine A.b rfl fun bx=>?_|refine A.t rfl fun bl=>?_|refine A.step rfl ?_|refine A.v rfl rfl ?_)
  refine A.c rfl (idx32_p f c p hcb l hb) .refl ?_
  (repeat first|refine A.s rfl ?_|refine A.r rfl rfl ?_|refine A.w rfl rfl ?_|refine A.p rfl ?_|refine A.b rfl fun bx=>?_|refine A.t rfl fun bl=>?_|refine A.step rfl ?_|refine A.v rfl rfl ?_); refine A.ret1 (Λ' := []) rfl rfl rfl (List.nil_sublist _) ⟨?_, rfl⟩; refine Sb.eq (ab_eq ?_); exact idxF_any p l 0
abbrev varsA (l : List KV) : AV := .sl 2 (l.map encV) none
theorem idxV_p (f : FuncId) (c : List AV) (p : KV → Bool) (hcb : ∀ x, Pure Try.prog gs0 f (encV x :: c) (AB (p x))) (l : List KV) (hb : l.length ≤ 281474976710656) :
    Pure Try.prog gs0 55 [varsA l, .fn f [] c] (AI (idxF p l 0)) := by
  refine Pure.of (S := tt) (fn := Try.f55) (n := 19) tt_ok Try.func55 rfl rfl rfl rfl fun w0 h0 F hgs => ?_
  ((repeat first|refine A.s rfl ?_|refine A.r rfl rfl ?_|refine A.w rfl rfl ?_|refine A.p rfl ?_|refine A.b rfl fun bx=>?_|refine A.t rfl fun bl=>?_|refine A.step rfl ?_|refine A.v rfl rfl ?_); refine A.valE 7 rfl (x' := AI (l.length : Nat)) (ai_eq (by rw [List.length_map])) ?_)
  refine A.keep [0, 1, 7, 8] rfl ?_
  refine A.loopP (ι := Nat) (fun i => (⟨[(0, varsA l), (1, .fn f [] c), (7, AI (l.length : Nat)), (8, AI (i : Int))], []⟩, [])) (fun i => i ≤ l.length ∧ idxF p l 0 = idxF p (l.drop i) i) (fun i => l.length - i) 0 ⟨by omega, rfl⟩ rfl fun i hi ih => ?_
  (repeat first|refine A.s rfl ?_|refine A.r rfl rfl ?_|refine A.w rfl rfl ?_|refine A.p rfl ?_|refine A.b rfl fun bx=>?_|refine A.t rfl fun bl=>?_|refine A.step rfl ?_|refine A.v rfl rfl ?_)
  refine A.cond rfl (fun hc => ?_) (fun hc => ?_)
  · simp at hc
    refine Exists.elim (at_exN (l := l) (i := i) hc) fun x hx => ?_
    (repeat first|refine A.s rfl ?_|refine A.r rfl rfl ?_|refine A.w rfl rfl ?_|refine A.p rfl ?_|refine A.b rfl fun bx=>?_|refine A.t rfl fun bl=>?_|refine A.step rfl ?_|refine A.v rfl rfl ?_)
    refine A.x rfl (by omega) (map_at hx) rfl rfl ?_
    (repeat first|refine A.s rfl ?_|refine A.r rfl rfl ?_|refine A.w rfl rfl ?_|refine A.p rfl ?_|refine A.b rfl fun bx=>?_|refine A.t rfl fun bl=>?_|refine A.step rfl ?_|refine A.v rfl rfl ?_)
    refine A.c rfl (hcb x) SbL.refl ?_
    have h1 := hi.2
    rw [drop_at hx, idxF] at h1
    cases hp : p x with
    | true =>
      rw [hp] at h1
      (repeat first|refine A.s rfl ?_|refine A.r rfl rfl ?_|refine A.w rfl rfl ?_|refine A.p rfl ?_|refine A.b rfl fun bx=>?_|refine A.t rfl fun bl=>?_|refine A.step rfl ?_|refine A.v rfl rfl ?_); refine A.ret1 (Λ' := []) rfl rfl rfl (List.nil_sublist _) ⟨?_, rfl⟩; rw [h1]; exact .refl
    | false =>
      rw [hp] at h1
      (repeat first|refine A.s rfl ?_|refine A.r rfl rfl ?_|refine A.w rfl rfl ?_|refine A.p rfl ?_|refine A.b rfl fun bx=>?_|refine A.t rfl fun bl=>?_|refine A.step rfl ?_|refine A.v rfl rfl ?_)
      refine A.valE 8 rfl (x' := AI ((i + 1 : Nat) : Int)) (inc_eq i (by omega)) ?_
      refine A.sub (by repeat (first | exact trivial | refine ⟨⟨_, rfl, .refl⟩, ?_⟩)) (ih (i + 1) ⟨by omega, h1⟩ (by omega))
  · simp at hc
    have : i = l.length := by omega
    subst this
    (repeat first|refine A.s rfl ?_|refine A.r rfl rfl ?_|refine A.w rfl rfl ?_|refine A.p rfl ?_|refine A.b rfl fun bx=>?_|refine A.t rfl fun bl=>?_|refine A.step rfl ?_|refine A.v rfl rfl ?_); refine A.ret1 (Λ' := []) rfl rfl rfl (List.nil_sublist _) ⟨?_, rfl⟩; rw [hi.2, List.drop_length]; exact .refl
theorem hasV_p (f : FuncId) (c : List AV) (p : KV → Bool) (hcb : ∀ x, Pure Try.prog gs0 f (encV x :: c) (AB (p x))) (l : List KV) (hb : l.length ≤ 281474976710656) :
    Pure Try.prog gs0 42 [varsA l, .fn f [] c] (AB (l.any p)) := by
  refine Pure.of (S := tt) (fn := Try.f42) (n := 9) tt_ok Try.func42 rfl rfl rfl rfl fun w0 h0 F hgs => ?_
  (repeat first|refine A.s rfl ?_|refine A.r rfl rfl ?_|refine A.w rfl rfl ?_|refine A.p rfl ?_|refine A.b rfl fun bx=>?_|refine A.t rfl fun bl=>?_|refine A.step rfl ?_|refine A.v rfl rfl ?_)
  refine A.c rfl (idxV_p f c p hcb l hb) .refl ?_
  (repeat first|refine A.s rfl ?_|refine A.r rfl rfl ?_|refine A.w rfl rfl ?_|refine A.p rfl ?_|refine A.b rfl fun bx=>?_|refine A.t rfl fun bl=>?_|refine A.step rfl ?_|refine A.v rfl rfl ?_); refine A.ret1 (Λ' := []) rfl rfl rfl (List.nil_sublist _) ⟨?_, rfl⟩; refine Sb.eq (ab_eq ?_); exact idxF_any p l 0
theorem sounds1_p (v : KV) : Pure Try.prog gs0 43 [encV v] (AB (!soundB v)) := by
  refine Pure.of (S := tt) (fn := Try.f43) (n := 6) tt_ok Try.func43 rfl rfl rfl rfl fun w0 h0 F hgs => ?_
  (repeat first|refine A.s rfl ?_|refine A.r rfl rfl ?_|refine A.w rfl rfl ?_|refine A.p rfl ?_|refine A.b rfl fun bx=>?_|refine A.t rfl fun bl=>?_|refine A.step rfl ?_|refine A.v rfl rfl ?_); refine A.c rfl (sound_p v) .refl ?_; (repeat first|refine A.s rfl ?_|refine A.r rfl rfl ?_|refine A.w rfl rfl ?_|refine A.p rfl ?_|refine A.b rfl fun bx=>?_|refine A.t rfl fun bl=>?_|refine A.step rfl ?_|refine A.v rfl rfl ?_); refine A.ret1 (Λ' := []) rfl rfl rfl (List.nil_sublist _) ⟨?_, rfl⟩; exact .refl
def soundsB (l : List KV) : Bool := decide (l.length ≤ 256) && !l.any (fun v => !soundB v)
theorem sounds_p (l : List KV) (hb : l.length ≤ 281474976710656) : Pure Try.prog gs0 29 [varsA l] (AB (soundsB l)) := by
  have hl : ((l.map encV).length : Int) = l.length := by rw [List.length_map]
  by_cases h : l.length ≤ 256
  · refine Pure.of (S := tt) (fn := Try.f29) (n := 11) tt_ok Try.func29 rfl rfl rfl rfl fun w0 h0 F hgs => ?_
    (repeat first|refine A.s rfl ?_|refine A.r rfl rfl ?_|refine A.w rfl rfl ?_|refine A.p rfl ?_|refine A.b rfl fun bx=>?_|refine A.t rfl fun bl=>?_|refine A.step rfl ?_|refine A.v rfl rfl ?_)
    refine A.valE 6 rfl (x' := AB true) (ab_eq (by simp; omega)) ?_
    (repeat first|refine A.s rfl ?_|refine A.r rfl rfl ?_|refine A.w rfl rfl ?_|refine A.p rfl ?_|refine A.b rfl fun bx=>?_|refine A.t rfl fun bl=>?_|refine A.step rfl ?_|refine A.v rfl rfl ?_)
    refine A.c rfl (hasV_p _ [] _ sounds1_p l hb) .refl ?_
    (repeat first|refine A.s rfl ?_|refine A.r rfl rfl ?_|refine A.w rfl rfl ?_|refine A.p rfl ?_|refine A.b rfl fun bx=>?_|refine A.t rfl fun bl=>?_|refine A.step rfl ?_|refine A.v rfl rfl ?_); refine A.ret1 (Λ' := []) rfl rfl rfl (List.nil_sublist _) ⟨?_, rfl⟩; refine Sb.eq (ab_eq ?_); simp [soundsB, h]
  · refine Pure.of (S := tt) (fn := Try.f29) (n := 11) tt_ok Try.func29 rfl rfl rfl rfl fun w0 h0 F hgs => ?_
    (repeat first|refine A.s rfl ?_|refine A.r rfl rfl ?_|refine A.w rfl rfl ?_|refine A.p rfl ?_|refine A.b rfl fun bx=>?_|refine A.t rfl fun bl=>?_|refine A.step rfl ?_|refine A.v rfl rfl ?_)
    refine A.valE 6 rfl (x' := AB false) (ab_eq (by simp; omega)) ?_
    (repeat first|refine A.s rfl ?_|refine A.r rfl rfl ?_|refine A.w rfl rfl ?_|refine A.p rfl ?_|refine A.b rfl fun bx=>?_|refine A.t rfl fun bl=>?_|refine A.step rfl ?_|refine A.v rfl rfl ?_); refine A.ret1 (Λ' := []) rfl rfl rfl (List.nil_sublist _) ⟨?_, rfl⟩; refine Sb.eq (ab_eq ?_); simp [soundsB, h]

/-! ### May -/
theorem may1_p (v : KV) (x : Int) : Pure Try.prog gs0 31 [AI32 x, .pe 2 (encV v)] (AB (!fitsB v.kind x)) := by
  refine Pure.of (S := tt) (fn := Try.f31) (n := 9) tt_ok Try.func31 rfl rfl rfl rfl fun w0 h0 F hgs => ?_
  (repeat first|refine A.s rfl ?_|refine A.r rfl rfl ?_|refine A.w rfl rfl ?_|refine A.p rfl ?_|refine A.b rfl fun bx=>?_|refine A.t rfl fun bl=>?_|refine A.step rfl ?_|refine A.v rfl rfl ?_); refine A.c rfl (fits_p _ _) .refl ?_; (repeat first|refine A.s rfl ?_|refine A.r rfl rfl ?_|refine A.w rfl rfl ?_|refine A.p rfl ?_|refine A.b rfl fun bx=>?_|refine A.t rfl fun bl=>?_|refine A.step rfl ?_|refine A.v rfl rfl ?_); refine A.ret1 (Λ' := []) rfl rfl rfl (List.nil_sublist _) ⟨?_, rfl⟩; exact .refl
def longI (v : KV) : Int := if v.dim < 1 then 1 else v.dim
def mayRow (v : KV) (r : List Int) : Bool := (r.length : Int) == longI v && !r.any (fun x => !fitsB v.kind x)
def mayB (l : List KV) (s : List (List Int)) : Bool := decide (s.length = l.length) && soundsB l && allEq mayRow l s l.length
abbrev kernA (l : List KV) : AV := .ag [varsA l, .v (.slice none 0 0), AU8 0, AI 0, AI 0, AU8 0, .v (.slice none 0 0), .v (.slice none 0 0), .v (.slice none 0 0), .v (.slice none 0 0), .v (.slice none 0 0)]
theorem may_p (l : List KV) (s : List (List Int)) (hb : l.length ≤ 281474976710656) (hs : short s) : Pure Try.prog gs0 18 [kernA l, rowsA s] (AB (mayB l s)) := by
  have hl : ((l.map encV).length : Int) = l.length := by rw [List.length_map]
  have hsl : ((s.map rowA).length : Int) = s.length := by rw [List.length_map]
  have hp := sounds_p l hb
  by_cases hlen : s.length = l.length
  case neg =>
    refine Pure.of (S := tt) (fn := Try.f18) (n := 45) tt_ok Try.func18 rfl rfl rfl rfl fun w0 h0 F hgs => ?_
    (repeat first|refine A.s rfl ?_|refine A.r rfl rfl ?_|refine A.w rfl rfl ?_|refine A.p rfl ?_|refine A.b rfl fun bx=>?_|refine A.t rfl fun bl=>?_|refine A.step rfl ?_|refine A.v rfl rfl ?_)
    refine A.valE 13 rfl (x' := AB true) (ab_eq (by simp; omega)) ?_
    (repeat first|refine A.s rfl ?_|refine A.r rfl rfl ?_|refine A.w rfl rfl ?_|refine A.p rfl ?_|refine A.b rfl fun bx=>?_|refine A.t rfl fun bl=>?_|refine A.step rfl ?_|refine A.v rfl rfl ?_); refine A.ret1 (Λ' := []) rfl rfl rfl (List.nil_sublist _) ⟨?_, rfl⟩; refine Sb.eq (ab_eq ?_); simp [mayB, hlen]
  cases hso : soundsB l with
  | false =>
    rw [hso] at hp
    refine Pure.of (S := tt) (fn := Try.f18) (n := 45) tt_ok Try.func18 rfl rfl rfl rfl fun w0 h0 F hgs => ?_
    (repeat first|refine A.s rfl ?_|refine A.r rfl rfl ?_|refine A.w rfl rfl ?_|refine A.p rfl ?_|refine A.b rfl fun bx=>?_|refine A.t rfl fun bl=>?_|refine A.step rfl ?_|refine A.v rfl rfl ?_)
    refine A.valE 13 rfl (x' := AB false) (ab_eq (by simp; omega)) ?_
    (repeat first|refine A.s rfl ?_|refine A.r rfl rfl ?_|refine A.w rfl rfl ?_|refine A.p rfl ?_|refine A.b rfl fun bx=>?_|refine A.t rfl fun bl=>?_|refine A.step rfl ?_|refine A.v rfl rfl ?_); refine A.c rfl (hp) .refl ?_; (repeat first|refine A.s rfl ?_|refine A.r rfl rfl ?_|refine A.w rfl rfl ?_|refine A.p rfl ?_|refine A.b rfl fun bx=>?_|refine A.t rfl fun bl=>?_|refine A.step rfl ?_|refine A.v rfl rfl ?_); refine A.ret1 (Λ' := []) rfl rfl rfl (List.nil_sublist _) ⟨?_, rfl⟩; refine Sb.eq (ab_eq ?_); simp [mayB, hso]
  | true =>
    rw [hso] at hp
    refine Pure.of (S := tt) (fn := Try.f18) (n := 45) tt_ok Try.func18 rfl rfl rfl rfl fun w0 h0 F hgs => ?_
    (repeat first|refine A.s rfl ?_|refine A.r rfl rfl ?_|refine A.w rfl rfl ?_|refine A.p rfl ?_|refine A.b rfl fun bx=>?_|refine A.t rfl fun bl=>?_|refine A.step rfl ?_|refine A.v rfl rfl ?_)
    refine A.valE 13 rfl (x' := AB false) (ab_eq (by simp; omega)) ?_
    (repeat first|refine A.s rfl ?_|refine A.r rfl rfl ?_|refine A.w rfl rfl ?_|refine A.p rfl ?_|refine A.b rfl fun bx=>?_|refine A.t rfl fun bl=>?_|refine A.step rfl ?_|refine A.v rfl rfl ?_); refine A.c rfl (hp) .refl ?_; (repeat first|refine A.s rfl ?_|refine A.r rfl rfl ?_|refine A.w rfl rfl ?_|refine A.p rfl ?_|refine A.b rfl fun bx=>?_|refine A.t rfl fun bl=>?_|refine A.step rfl ?_|refine A.v rfl rfl ?_)
    refine A.valE 21 rfl (x' := AI (l.length : Nat)) (ai_eq hl) ?_
    refine A.keep [1, 20, 21, 22] rfl ?_
    refine A.less (Λ' := []) (by repeat (first | exact List.Sublist.refl _ | apply List.Sublist.cons_cons | apply List.Sublist.cons)) ?_
    refine A.loopP (ι := Nat) (fun i => (⟨[(1, rowsA s), (20, varsA l), (21, AI (l.length : Nat)), (22, AI (i : Int))], []⟩, [])) (fun i => i ≤ l.length ∧ allEq mayRow l s i = true) (fun i => l.length - i) 0 ⟨by omega, rfl⟩ rfl fun i hi ih => ?_
    (repeat first|refine A.s rfl ?_|refine A.r rfl rfl ?_|refine A.w rfl rfl ?_|refine A.p rfl ?_|refine A.b rfl fun bx=>?_|refine A.t rfl fun bl=>?_|refine A.step rfl ?_|refine A.v rfl rfl ?_)
    refine A.cond rfl (fun hc => ?_) (fun hc => ?_)
    · simp at hc
      refine Exists.elim (at_exN (l := l) (i := i) hc) fun v hv => Exists.elim (at_exN (l := s) (i := i) (by omega)) fun r hr => ?_
      have hrl := hs.2 r (List.mem_of_getElem? hr)
      have h1 := allEq_succ mayRow hv hr
      (repeat first|refine A.s rfl ?_|refine A.r rfl rfl ?_|refine A.w rfl rfl ?_|refine A.p rfl ?_|refine A.b rfl fun bx=>?_|refine A.t rfl fun bl=>?_|refine A.step rfl ?_|refine A.v rfl rfl ?_)
      refine A.x rfl (by omega) (map_at hv) rfl rfl ?_
      (repeat first|refine A.s rfl ?_|refine A.r rfl rfl ?_|refine A.w rfl rfl ?_|refine A.p rfl ?_|refine A.b rfl fun bx=>?_|refine A.t rfl fun bl=>?_|refine A.step rfl ?_|refine A.v rfl rfl ?_)
      refine A.freeze 6 rfl (sz := 2) rfl rfl ?_
      by_cases hlr : (r.length : Int) = longI v
      · refine A.draw 15 [0, 1, 2, 3, 4, 5, 6, 7, 8, 9, 10, 11, 12, 13, 14] noPubs [] (by kernel_rfl) (by kernel_rfl) ?_
        (repeat first|refine WA.s rfl ?_|refine WA.r rfl rfl ?_|refine WA.p rfl ?_|refine WA.step rfl ?_|refine WA.v rfl rfl ?_); refine WA.x rfl (by omega) (map_at hr) rfl rfl ?_
        (repeat first|refine WA.s rfl ?_|refine WA.r rfl rfl ?_|refine WA.p rfl ?_|refine WA.step rfl ?_|refine WA.v rfl rfl ?_)
        refine WA.valE 36 rfl (x' := AB false) (ab_eq ?_) ?_
        · rw [List.length_map, bne_eq_false_iff_eq, hlr, longI]; split <;> split <;> omega
        (repeat first|refine WA.s rfl ?_|refine WA.r rfl rfl ?_|refine WA.p rfl ?_|refine WA.step rfl ?_|refine WA.v rfl rfl ?_); refine WA.x rfl (by omega) (map_at hr) rfl rfl ?_
        (repeat first|refine WA.s rfl ?_|refine WA.r rfl rfl ?_|refine WA.p rfl ?_|refine WA.step rfl ?_|refine WA.v rfl rfl ?_)
        refine WA.nil rfl ?_
        have hm := has32_p 31 [.pe 2 (encV v)] (fun x => !fitsB v.kind x) (may1_p v) r hrl
        refine A.c rfl (hm) .refl ?_
        (repeat first|refine A.s rfl ?_|refine A.r rfl rfl ?_|refine A.w rfl rfl ?_|refine A.p rfl ?_|refine A.b rfl fun bx=>?_|refine A.t rfl fun bl=>?_|refine A.step rfl ?_|refine A.v rfl rfl ?_)
        refine A.cond rfl (fun hr2 => ?_) (fun hr2 => ?_)
        · have hr2 : (r.any fun x => !fitsB v.kind x) = true := hr2
          (repeat first|refine A.s rfl ?_|refine A.r rfl rfl ?_|refine A.w rfl rfl ?_|refine A.p rfl ?_|refine A.b rfl fun bx=>?_|refine A.t rfl fun bl=>?_|refine A.step rfl ?_|refine A.v rfl rfl ?_); refine A.ret1 (Λ' := []) rfl rfl rfl (List.nil_sublist _) ⟨?_, rfl⟩; refine Sb.eq (ab_eq ?_)
          have h2 := allEq_le (f := mayRow) (a := l) (b := s) (j := i + 1) (by rw [h1, mayRow, hr2]; simp) l.length (by omega)
          rw [mayB, h2]; simp
        · have hr2 : (r.any fun x => !fitsB v.kind x) = false := hr2
          (repeat first|refine A.s rfl ?_|refine A.r rfl rfl ?_|refine A.w rfl rfl ?_|refine A.p rfl ?_|refine A.b rfl fun bx=>?_|refine A.t rfl fun bl=>?_|refine A.step rfl ?_|refine A.v rfl rfl ?_)
          refine A.valE 22 rfl (x' := AI ((i + 1 : Nat) : Int)) (inc_eq i (by omega)) ?_
          refine A.sub (by repeat (first | exact trivial | refine ⟨⟨_, rfl, .refl⟩, ?_⟩)) (ih (i + 1) ⟨by omega, by rw [h1, hi.2, mayRow, hr2, hlr]; simp⟩ (by omega))
      · refine A.draw 15 [0, 1, 2, 3, 4, 5, 6, 7, 8, 9, 10, 11, 12, 13, 14] noPubs [] (by kernel_rfl) (by kernel_rfl) ?_
        (repeat first|refine WA.s rfl ?_|refine WA.r rfl rfl ?_|refine WA.p rfl ?_|refine WA.step rfl ?_|refine WA.v rfl rfl ?_); refine WA.x rfl (by omega) (map_at hr) rfl rfl ?_
        (repeat first|refine WA.s rfl ?_|refine WA.r rfl rfl ?_|refine WA.p rfl ?_|refine WA.step rfl ?_|refine WA.v rfl rfl ?_)
        refine WA.valE 36 rfl (x' := AB true) (ab_eq ?_) ?_
        · rw [List.length_map, bne_iff_ne]; unfold longI at hlr; split at hlr <;> split <;> omega
        (repeat first|refine WA.s rfl ?_|refine WA.r rfl rfl ?_|refine WA.p rfl ?_|refine WA.step rfl ?_|refine WA.v rfl rfl ?_)
        refine WA.nil rfl ?_
        (repeat first|refine A.s rfl ?_|refine A.r rfl rfl ?_|refine A.w rfl rfl ?_|refine A.p rfl ?_|refine A.b rfl fun bx=>?_|refine A.t rfl fun bl=>?_|refine A.step rfl ?_|refine A.v rfl rfl ?_); refine A.ret1 (Λ' := []) rfl rfl rfl (List.nil_sublist _) ⟨?_, rfl⟩; refine Sb.eq (ab_eq ?_)
        have h2 := allEq_le (f := mayRow) (a := l) (b := s) (j := i + 1) (by rw [h1, mayRow, beq_eq_false_iff_ne.2 hlr]; simp) l.length (by omega)
        rw [mayB, h2]; simp
    · simp at hc
      have : i = l.length := by omega
      subst this
      (repeat first|refine A.s rfl ?_|refine A.r rfl rfl ?_|refine A.w rfl rfl ?_|refine A.p rfl ?_|refine A.b rfl fun bx=>?_|refine A.t rfl fun bl=>?_|refine A.step rfl ?_|refine A.v rfl rfl ?_); refine A.ret1 (Λ' := []) rfl rfl rfl (List.nil_sublist _) ⟨?_, rfl⟩; refine Sb.eq (ab_eq ?_); rw [mayB, hso, hi.2, decide_eq_true hlen]; rfl

/-! ### Store -/
def storeM (l : List KV) : List (List Int) := l.map fun v => List.replicate (longI v).toNat 0
theorem rep32 (n : Nat) : List.replicate n (AI32 0) = (List.replicate n (0 : Int)).map AI32 := by rw [List.map_replicate]
theorem store_no (l : List KV) (hb : l.length ≤ 281474976710656) (hs : soundsB l = false) : Pure Try.prog gs0 17 [kernA l] nilV := by
  have hp := sounds_p l hb
  rw [hs] at hp
  refine Pure.of (S := tt) (fn := Try.f17) (n := 31) tt_ok Try.func17 rfl rfl rfl rfl fun w0 h0 F hgs => ?_
  (repeat first|refine A.s rfl ?_|refine A.r rfl rfl ?_|refine A.w rfl rfl ?_|refine A.p rfl ?_|refine A.b rfl fun bx=>?_|refine A.t rfl fun bl=>?_|refine A.step rfl ?_|refine A.v rfl rfl ?_); refine A.c rfl (hp) .refl ?_; (repeat first|refine A.s rfl ?_|refine A.r rfl rfl ?_|refine A.w rfl rfl ?_|refine A.p rfl ?_|refine A.b rfl fun bx=>?_|refine A.t rfl fun bl=>?_|refine A.step rfl ?_|refine A.v rfl rfl ?_); refine A.ret1 (Λ' := []) rfl rfl rfl (List.nil_sublist _) ⟨?_, rfl⟩; exact .refl
theorem store_p (l : List KV) (hs : soundsB l = true) :
    FunE Try.prog gs0 17 [kernA l] [] (fun p : Value × List (Value × List Int) => .ms p.1 1 l.length) (fun p => [.rows 1 (rowsH p.2), .row 1 p.1 (msL 1 (rowsH p.2))]) (fun p => p.2.map Prod.snd = storeM l) := by
  have hs0 := hs
  unfold soundsB at hs0
  simp at hs0
  have hp := sounds_p l (by omega)
  rw [hs] at hp
  have hl : ((l.map encV).length : Int) = l.length := by rw [List.length_map]
  unfold FunE
  refine Fun.of (S := tt) (fn := Try.f17) (n := 31) tt_ok Try.func17 rfl rfl rfl rfl fun w0 h0 F hgs => ?_
  (repeat first|refine A.s rfl ?_|refine A.r rfl rfl ?_|refine A.w rfl rfl ?_|refine A.p rfl ?_|refine A.b rfl fun bx=>?_|refine A.t rfl fun bl=>?_|refine A.step rfl ?_|refine A.v rfl rfl ?_); refine A.c rfl (hp) .refl ?_; (repeat first|refine A.s rfl ?_|refine A.r rfl rfl ?_|refine A.w rfl rfl ?_|refine A.p rfl ?_|refine A.b rfl fun bx=>?_|refine A.t rfl fun bl=>?_|refine A.step rfl ?_|refine A.v rfl rfl ?_)
  refine A.valE 12 rfl (x' := AI (l.length : Nat)) (ai_eq hl) ?_
  refine A.make rfl rfl rfl rfl rfl rfl rfl rfl rfl rfl rfl rfl (by omega) ?_ (by omega) fun zo => ?_
  · show ((24 : Nat) : Int) * _ ≤ _
    omega
  (repeat first|refine A.s rfl ?_|refine A.r rfl rfl ?_|refine A.w rfl rfl ?_|refine A.p rfl ?_|refine A.b rfl fun bx=>?_|refine A.t rfl fun bl=>?_|refine A.step rfl ?_|refine A.v rfl rfl ?_)
  refine A.valE 3 rfl (x' := .ms zo 1 l.length) (by rw [Int.toNat_natCast]; rfl) ?_
  refine A.valE 16 rfl (x' := AI (l.length : Nat)) (ai_eq hl) ?_
  refine A.keep [3, 15, 16, 17] rfl ?_
  refine A.less (Λ' := [.row 1 zo (List.replicate (l.length : Int).toNat nilV)]) (by repeat (first | exact List.Sublist.refl _ | apply List.Sublist.cons_cons | apply List.Sublist.cons)) ?_
  refine A.entsEq (Λ' := [.row 1 zo (List.replicate l.length nilV)]) (by rw [Int.toNat_natCast]) ?_
  refine A.rows0 1 ?_
  refine A.loopP (ι := List (Value × List Int)) (fun hs => (⟨[(3, .ms zo 1 l.length), (15, varsA l), (16, AI (l.length : Nat)), (17, AI (hs.length : Nat))], []⟩, [.rows 1 (rowsH hs), .row 1 zo (msL 1 (rowsH hs) ++ List.replicate (l.length - hs.length) nilV)]))
    (fun hs => hs.map Prod.snd = (storeM l).take hs.length ∧ hs.length ≤ l.length) (fun hs => l.length - hs.length) [] ⟨rfl, Nat.zero_le _⟩ rfl fun hs hi ih => ?_
  (repeat first|refine A.s rfl ?_|refine A.r rfl rfl ?_|refine A.w rfl rfl ?_|refine A.p rfl ?_|refine A.b rfl fun bx=>?_|refine A.t rfl fun bl=>?_|refine A.step rfl ?_|refine A.v rfl rfl ?_)
  refine A.cond rfl (fun hc => ?_) (fun hc => ?_)
  · simp at hc
    refine Exists.elim (at_exN (l := l) (i := hs.length) hc) fun v hv => ?_
    have hvm := hs0.2 v (List.mem_of_getElem? hv)
    simp [soundB] at hvm
    have hlo : 1 ≤ longI v ∧ longI v ≤ 64 := by unfold longI; split <;> omega
    (repeat first|refine A.s rfl ?_|refine A.r rfl rfl ?_|refine A.w rfl rfl ?_|refine A.p rfl ?_|refine A.b rfl fun bx=>?_|refine A.t rfl fun bl=>?_|refine A.step rfl ?_|refine A.v rfl rfl ?_)
    refine A.x rfl (by omega) (map_at hv) rfl rfl ?_
    (repeat first|refine A.s rfl ?_|refine A.r rfl rfl ?_|refine A.w rfl rfl ?_|refine A.p rfl ?_|refine A.b rfl fun bx=>?_|refine A.t rfl fun bl=>?_|refine A.step rfl ?_|refine A.v rfl rfl ?_)
    refine A.valE 26 rfl (x' := AI (longI v)) (ai_eq (by unfold longI; split <;> split <;> omega)) ?_
    refine A.make rfl rfl rfl rfl rfl rfl rfl rfl rfl rfl rfl rfl (by omega) ?_ (by omega) fun z => ?_
    · show ((4 : Nat) : Int) * _ ≤ _
      omega
    (repeat first|refine A.s rfl ?_|refine A.r rfl rfl ?_|refine A.w rfl rfl ?_|refine A.p rfl ?_|refine A.b rfl fun bx=>?_|refine A.t rfl fun bl=>?_|refine A.step rfl ?_|refine A.v rfl rfl ?_)
    refine A.indexRow rfl rfl rfl rfl rfl rfl rfl rfl (by omega) (by rw [List.length_append, rowsH_len, List.length_replicate]; omega) rfl ?_
    have hrl : (List.replicate (longI v).toNat (0 : Int)).length = (longI v).toNat := List.length_replicate
    refine A.valE 27 rfl (x' := .ms z 1 (List.replicate (longI v).toNat (0 : Int)).length) (by rw [hrl]; rfl) ?_
    refine A.less (Λ' := [.row 1 z (List.replicate (longI v).toNat (AI32 0)), .rows 1 (rowsH hs), .row 1 zo (msL 1 (rowsH hs) ++ List.replicate (l.length - hs.length) nilV)]) (by repeat (first | exact List.Sublist.refl _ | apply List.Sublist.cons_cons | apply List.Sublist.cons)) ?_
    refine A.entsEq (Λ' := [.row 1 z ((List.replicate (longI v).toNat (0 : Int)).map AI32), .rows 1 (rowsH hs), .row 1 zo (msL 1 (rowsH hs) ++ List.replicate (l.length - hs.length) nilV)]) (by rw [List.map_replicate]) ?_
    refine A.storeRow rfl rfl rfl rfl rfl rfl rfl rfl rfl ?_ (xs' := msL 1 (rowsH (hs ++ [(z, List.replicate (longI v).toNat 0)])) ++ List.replicate (l.length - (hs ++ [(z, List.replicate (longI v).toNat (0 : Int))]).length) nilV) ?_ ?_
    · rw [List.length_append, rowsH_len, List.length_replicate]; omega
    · have := out_set hs z (List.replicate (longI v).toNat 0) (l.length - (hs ++ [(z, List.replicate (longI v).toNat (0 : Int))]).length)
      rw [show l.length - hs.length = l.length - (hs ++ [(z, List.replicate (longI v).toNat (0 : Int))]).length + 1 by simp; omega]
      exact this
    refine A.rowsIn (.refl _) ?_
    (repeat first|refine A.s rfl ?_|refine A.r rfl rfl ?_|refine A.w rfl rfl ?_|refine A.p rfl ?_|refine A.b rfl fun bx=>?_|refine A.t rfl fun bl=>?_|refine A.step rfl ?_|refine A.v rfl rfl ?_)
    refine A.valE 17 rfl (x' := AI (((hs ++ [(z, List.replicate (longI v).toNat (0 : Int))]).length : Nat) : Int)) ?_ ?_
    · rw [inc_eq hs.length (by omega)]; simp
    refine A.entsEq (Λ' := [.rows 1 (rowsH (hs ++ [(z, List.replicate (longI v).toNat (0 : Int))])), .row 1 zo (msL 1 (rowsH (hs ++ [(z, List.replicate (longI v).toNat (0 : Int))])) ++ List.replicate (l.length - (hs ++ [(z, List.replicate (longI v).toNat (0 : Int))]).length) nilV)]) (by simp [rowsH]) ?_
    refine A.sub (by repeat (first | exact trivial | refine ⟨⟨_, rfl, .refl⟩, ?_⟩)) (ih (hs ++ [(z, List.replicate (longI v).toNat 0)]) ⟨?_, by simp; omega⟩ (by simp; omega))
    simp [hi.1, storeM, List.take_add_one, hv]
  · simp at hc
    have hlen : hs.length = l.length := by omega
    have hsnd : hs.map Prod.snd = storeM l := by rw [hi.1, hlen]; exact List.take_of_length_le (by rw [storeM, List.length_map]; exact Nat.le_refl _)
    refine A.entsEq (Λ' := [.rows 1 (rowsH hs), .row 1 zo (msL 1 (rowsH hs))]) (by rw [hlen, Nat.sub_self]; simp) ?_
    (repeat first|refine A.s rfl ?_|refine A.r rfl rfl ?_|refine A.w rfl rfl ?_|refine A.p rfl ?_|refine A.b rfl fun bx=>?_|refine A.t rfl fun bl=>?_|refine A.step rfl ?_|refine A.v rfl rfl ?_)
    refine A.ret1 (Λ' := [.rows 1 (rowsH hs), .row 1 zo (msL 1 (rowsH hs))]) rfl rfl rfl (by repeat (first | exact List.Sublist.refl _ | apply List.Sublist.cons_cons | apply List.Sublist.cons)) ⟨(zo, hs), .refl, rfl, hsnd⟩
end Go.Proofs.Ytbdjbmbghfbenaa
