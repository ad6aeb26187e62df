/-
  Chapter 17: the reference's stores.
-/
import Derived.Test.YtbbainjecjdkmaaQ17h
import Derived.Test.YtbbainjecjdkmaaTqR

namespace Go.Proofs.Ytbbainjecjdkmaa
open Go Go.Tp
set_option linter.unusedVariables false
set_option linter.unusedSimpArgs false
set_option maxRecDepth 100000
set_option maxHeartbeats 4000000

/-! ### functions whose rows are written no more -/
theorem rows_pure {f : FuncId} {a : List AV} {n : Nat} {s : List (List Int)} (hf : FunE Try.prog gs0 f a [] (fun p : Value × List (Value × List Int) => .ms p.1 1 n) (fun p => [.rows 1 (rowsH p.2), .row 1 p.1 (msL 1 (rowsH p.2))]) (fun p => p.2.map Prod.snd = s)) :
    Pure Try.prog gs0 f a (rowsA s) :=
  Fun.rows (Fun.mono hf fun x Λ' ⟨p, h1, h2, h3⟩ => ⟨p.1, rowsH p.2, n, h1, h2, by rw [sl_rows, h3]⟩)
def storeS (l : List KV) : List (List Int) := if soundsB l then storeM l else []
theorem storeS_p (l : List KV) (hb : l.length ≤ 281474976710656) : Pure Try.prog gs0 13 [kernA l] (rowsA (storeS l)) := by
  cases h : soundsB l with
  | true => rw [storeS, h, if_pos rfl]; exact rows_pure (store_p l h)
  | false =>
    have := store_no l hb h
    rw [storeS, h]
    exact fun w0 h vs L F g r q => (this w0 h vs L F g r q).mono fun _ _ _ ⟨x, Λ', L1, ⟨e1, e1'⟩, e2, e3⟩ => ⟨rowsA [], Λ', L1, ⟨rfl, e1'⟩, by subst e1; exact Sb.nil.rp e2, e3⟩
theorem Put_p (s : List (List Int)) (v i x : Int) (h1 : s.length ≤ 1073741824) (h2 : ∀ r, r ∈ s → r.length ≤ 35184372088832) : Pure Try.prog gs0 24 [rowsA s, AI v, AI i, AI32 x] (rowsA (putM s v i x)) :=
  rows_pure (put_p s v i x h1 h2)

/-! ### ref17.sound, Long -/
def goodN (l : List KV) (i : Nat) : Bool := (l.take i).all soundB
theorem good_succ {l : List KV} {i : Nat} {v : KV} (h : l[i]? = some v) : goodN l (i + 1) = (goodN l i && soundB v) := by
  rw [goodN, List.take_add_one, h, List.all_append]; simp [goodN]
theorem good_all (l : List KV) : goodN l l.length = !l.any (fun v => !soundB v) := by
  rw [goodN, List.take_length]; induction l with
  | nil => rfl
  | cons x r ih => rw [List.all_cons, List.any_cons, ih]; cases soundB x <;> simp
theorem good_le {l : List KV} {j : Nat} (h : goodN l j = false) : goodN l l.length = false := by
  rw [goodN, List.all_eq_false] at *
  obtain ⟨x, h1, h2⟩ := h
  exact ⟨x, by rw [List.take_length]; exact List.mem_of_mem_take h1, h2⟩
theorem bad_sound {l : List KV} {i : Nat} {v : KV} (hv : l[i]? = some v) (h : soundB v = false) : soundsB l = false := by
  have : (l.any fun v => !soundB v) = true := List.any_eq_true.2 ⟨v, List.mem_of_getElem? hv, by rw [h]; rfl⟩
  rw [soundsB, this]; simp
theorem rsound_p (l : List KV) (hb : l.length ≤ 281474976710656) : Pure Try.prog gs0 38 [varsA l] (AB (soundsB l)) := by
  have hl : ((l.map encV).length : Int) = l.length := by rw [List.length_map]
  by_cases h : l.length ≤ 256
  case neg =>
    refine Pure.of (S := tt) (fn := Try.f38) (n := 51) tt_ok Try.func38 rfl rfl rfl rfl fun w0 h0 F hgs => ?_
    (repeat first|refine A.s rfl ?_|refine A.r rfl rfl ?_|refine A.w rfl rfl ?_|refine A.p rfl ?_|refine A.b rfl fun bx=>?_|refine A.t rfl fun bl=>?_|refine A.step rfl ?_|refine A.v rfl rfl ?_)
    refine A.valE 6 rfl (x' := AB true) (ab_eq (by simp; omega)) ?_
    (repeat first|refine A.s rfl ?_|refine A.r rfl rfl ?_|refine A.w rfl rfl ?_|refine A.p rfl ?_|refine A.b rfl fun bx=>?_|refine A.t rfl fun bl=>?_|refine A.step rfl ?_|refine A.v rfl rfl ?_); refine A.ret1 (Λ' := []) rfl rfl rfl (List.nil_sublist _) ⟨?_, rfl⟩; refine Sb.eq (ab_eq ?_); simp [soundsB, h]
  refine Pure.of (S := tt) (fn := Try.f38) (n := 51) tt_ok Try.func38 rfl rfl rfl rfl fun w0 h0 F hgs => ?_
  (repeat first|refine A.s rfl ?_|refine A.r rfl rfl ?_|refine A.w rfl rfl ?_|refine A.p rfl ?_|refine A.b rfl fun bx=>?_|refine A.t rfl fun bl=>?_|refine A.step rfl ?_|refine A.v rfl rfl ?_)
  refine A.valE 6 rfl (x' := AB false) (ab_eq (by simp; omega)) ?_
  (repeat first|refine A.s rfl ?_|refine A.r rfl rfl ?_|refine A.w rfl rfl ?_|refine A.p rfl ?_|refine A.b rfl fun bx=>?_|refine A.t rfl fun bl=>?_|refine A.step rfl ?_|refine A.v rfl rfl ?_)
  refine A.keep [0, 3] rfl ?_
  refine A.loopP (ι := Nat) (fun i => (⟨[(0, varsA l), (3, AI (i : Int))], []⟩, [])) (fun i => i ≤ l.length ∧ goodN l i = true) (fun i => l.length - i) 0 ⟨by omega, rfl⟩ rfl fun i hi ih => ?_
  (repeat first|refine A.s rfl ?_|refine A.r rfl rfl ?_|refine A.w rfl rfl ?_|refine A.p rfl ?_|refine A.b rfl fun bx=>?_|refine A.t rfl fun bl=>?_|refine A.step rfl ?_|refine A.v rfl rfl ?_)
  refine A.cond rfl (fun hc => ?_) (fun hc => ?_)
  · simp at hc
    refine Exists.elim (at_exN (l := l) (i := i) (by omega)) fun v hv => ?_
    (repeat first|refine A.s rfl ?_|refine A.r rfl rfl ?_|refine A.w rfl rfl ?_|refine A.p rfl ?_|refine A.b rfl fun bx=>?_|refine A.t rfl fun bl=>?_|refine A.step rfl ?_|refine A.v rfl rfl ?_)
    refine A.x rfl (by omega) (map_at hv) rfl rfl ?_
    (repeat first|refine A.s rfl ?_|refine A.r rfl rfl ?_|refine A.w rfl rfl ?_|refine A.p rfl ?_|refine A.b rfl fun bx=>?_|refine A.t rfl fun bl=>?_|refine A.step rfl ?_|refine A.v rfl rfl ?_)
    by_cases k1 : v.kind = 1
    · refine A.valE 19 rfl (x' := AB false) (ab_eq (by simp [k1])) ?_
      (repeat first|refine A.s rfl ?_|refine A.r rfl rfl ?_|refine A.w rfl rfl ?_|refine A.p rfl ?_|refine A.b rfl fun bx=>?_|refine A.t rfl fun bl=>?_|refine A.step rfl ?_|refine A.v rfl rfl ?_); (refine A.x rfl (by omega) (map_at hv) rfl rfl ?_; (repeat first|refine A.s rfl ?_|refine A.r rfl rfl ?_|refine A.w rfl rfl ?_|refine A.p rfl ?_|refine A.b rfl fun bx=>?_|refine A.t rfl fun bl=>?_|refine A.step rfl ?_|refine A.v rfl rfl ?_); refine A.split 43 rfl (fun hd => ?_) (fun hd => ?_); (simp at hd; ((repeat first|refine A.s rfl ?_|refine A.r rfl rfl ?_|refine A.w rfl rfl ?_|refine A.p rfl ?_|refine A.b rfl fun bx=>?_|refine A.t rfl fun bl=>?_|refine A.step rfl ?_|refine A.v rfl rfl ?_); refine A.ret1 (Λ' := []) rfl rfl rfl (List.nil_sublist _) ⟨?_, rfl⟩; exact Sb.eq (ab_eq (bad_sound hv (by simp [soundB]; omega)).symm))); simp at hd; refine A.x rfl (by omega) (map_at hv) rfl rfl ?_; (repeat first|refine A.s rfl ?_|refine A.r rfl rfl ?_|refine A.w rfl rfl ?_|refine A.p rfl ?_|refine A.b rfl fun bx=>?_|refine A.t rfl fun bl=>?_|refine A.step rfl ?_|refine A.v rfl rfl ?_); refine A.cond rfl (fun he => ?_) (fun he => ?_); (simp at he; ((repeat first|refine A.s rfl ?_|refine A.r rfl rfl ?_|refine A.w rfl rfl ?_|refine A.p rfl ?_|refine A.b rfl fun bx=>?_|refine A.t rfl fun bl=>?_|refine A.step rfl ?_|refine A.v rfl rfl ?_); refine A.ret1 (Λ' := []) rfl rfl rfl (List.nil_sublist _) ⟨?_, rfl⟩; exact Sb.eq (ab_eq (bad_sound hv (by simp [soundB]; omega)).symm))); simp at he; (repeat first|refine A.s rfl ?_|refine A.r rfl rfl ?_|refine A.w rfl rfl ?_|refine A.p rfl ?_|refine A.b rfl fun bx=>?_|refine A.t rfl fun bl=>?_|refine A.step rfl ?_|refine A.v rfl rfl ?_); refine A.valE 3 rfl (x' := AI ((i + 1 : Nat) : Int)) (inc_eq i (by omega)) ?_; refine A.sub (by repeat (first | exact trivial | refine ⟨⟨_, rfl, .refl⟩, ?_⟩)) (ih (i + 1) ⟨by omega, ?_⟩ (by omega)); rw [good_succ hv, hi.2]; simp [soundB]; omega)
    refine A.valE 19 rfl (x' := AB true) (ab_eq (by simp [k1])) ?_
    refine A.x rfl (by omega) (map_at hv) rfl rfl ?_
    (repeat first|refine A.s rfl ?_|refine A.r rfl rfl ?_|refine A.w rfl rfl ?_|refine A.p rfl ?_|refine A.b rfl fun bx=>?_|refine A.t rfl fun bl=>?_|refine A.step rfl ?_|refine A.v rfl rfl ?_)
    by_cases k2 : v.kind = 2
    · refine A.valE 27 rfl (x' := AB false) (ab_eq (by simp [k2])) ?_
      (repeat first|refine A.s rfl ?_|refine A.r rfl rfl ?_|refine A.w rfl rfl ?_|refine A.p rfl ?_|refine A.b rfl fun bx=>?_|refine A.t rfl fun bl=>?_|refine A.step rfl ?_|refine A.v rfl rfl ?_); (refine A.x rfl (by omega) (map_at hv) rfl rfl ?_; (repeat first|refine A.s rfl ?_|refine A.r rfl rfl ?_|refine A.w rfl rfl ?_|refine A.p rfl ?_|refine A.b rfl fun bx=>?_|refine A.t rfl fun bl=>?_|refine A.step rfl ?_|refine A.v rfl rfl ?_); refine A.split 43 rfl (fun hd => ?_) (fun hd => ?_); (simp at hd; ((repeat first|refine A.s rfl ?_|refine A.r rfl rfl ?_|refine A.w rfl rfl ?_|refine A.p rfl ?_|refine A.b rfl fun bx=>?_|refine A.t rfl fun bl=>?_|refine A.step rfl ?_|refine A.v rfl rfl ?_); refine A.ret1 (Λ' := []) rfl rfl rfl (List.nil_sublist _) ⟨?_, rfl⟩; exact Sb.eq (ab_eq (bad_sound hv (by simp [soundB]; omega)).symm))); simp at hd; refine A.x rfl (by omega) (map_at hv) rfl rfl ?_; (repeat first|refine A.s rfl ?_|refine A.r rfl rfl ?_|refine A.w rfl rfl ?_|refine A.p rfl ?_|refine A.b rfl fun bx=>?_|refine A.t rfl fun bl=>?_|refine A.step rfl ?_|refine A.v rfl rfl ?_); refine A.cond rfl (fun he => ?_) (fun he => ?_); (simp at he; ((repeat first|refine A.s rfl ?_|refine A.r rfl rfl ?_|refine A.w rfl rfl ?_|refine A.p rfl ?_|refine A.b rfl fun bx=>?_|refine A.t rfl fun bl=>?_|refine A.step rfl ?_|refine A.v rfl rfl ?_); refine A.ret1 (Λ' := []) rfl rfl rfl (List.nil_sublist _) ⟨?_, rfl⟩; exact Sb.eq (ab_eq (bad_sound hv (by simp [soundB]; omega)).symm))); simp at he; (repeat first|refine A.s rfl ?_|refine A.r rfl rfl ?_|refine A.w rfl rfl ?_|refine A.p rfl ?_|refine A.b rfl fun bx=>?_|refine A.t rfl fun bl=>?_|refine A.step rfl ?_|refine A.v rfl rfl ?_); refine A.valE 3 rfl (x' := AI ((i + 1 : Nat) : Int)) (inc_eq i (by omega)) ?_; refine A.sub (by repeat (first | exact trivial | refine ⟨⟨_, rfl, .refl⟩, ?_⟩)) (ih (i + 1) ⟨by omega, ?_⟩ (by omega)); rw [good_succ hv, hi.2]; simp [soundB]; omega)
    refine A.valE 27 rfl (x' := AB true) (ab_eq (by simp [k2])) ?_
    refine A.x rfl (by omega) (map_at hv) rfl rfl ?_
    (repeat first|refine A.s rfl ?_|refine A.r rfl rfl ?_|refine A.w rfl rfl ?_|refine A.p rfl ?_|refine A.b rfl fun bx=>?_|refine A.t rfl fun bl=>?_|refine A.step rfl ?_|refine A.v rfl rfl ?_)
    by_cases k3 : v.kind = 3
    · refine A.valE 35 rfl (x' := AB false) (ab_eq (by simp [k3])) ?_
      (repeat first|refine A.s rfl ?_|refine A.r rfl rfl ?_|refine A.w rfl rfl ?_|refine A.p rfl ?_|refine A.b rfl fun bx=>?_|refine A.t rfl fun bl=>?_|refine A.step rfl ?_|refine A.v rfl rfl ?_); (refine A.x rfl (by omega) (map_at hv) rfl rfl ?_; (repeat first|refine A.s rfl ?_|refine A.r rfl rfl ?_|refine A.w rfl rfl ?_|refine A.p rfl ?_|refine A.b rfl fun bx=>?_|refine A.t rfl fun bl=>?_|refine A.step rfl ?_|refine A.v rfl rfl ?_); refine A.split 43 rfl (fun hd => ?_) (fun hd => ?_); (simp at hd; ((repeat first|refine A.s rfl ?_|refine A.r rfl rfl ?_|refine A.w rfl rfl ?_|refine A.p rfl ?_|refine A.b rfl fun bx=>?_|refine A.t rfl fun bl=>?_|refine A.step rfl ?_|refine A.v rfl rfl ?_); refine A.ret1 (Λ' := []) rfl rfl rfl (List.nil_sublist _) ⟨?_, rfl⟩; exact Sb.eq (ab_eq (bad_sound hv (by simp [soundB]; omega)).symm))); simp at hd; refine A.x rfl (by omega) (map_at hv) rfl rfl ?_; (repeat first|refine A.s rfl ?_|refine A.r rfl rfl ?_|refine A.w rfl rfl ?_|refine A.p rfl ?_|refine A.b rfl fun bx=>?_|refine A.t rfl fun bl=>?_|refine A.step rfl ?_|refine A.v rfl rfl ?_); refine A.cond rfl (fun he => ?_) (fun he => ?_); (simp at he; ((repeat first|refine A.s rfl ?_|refine A.r rfl rfl ?_|refine A.w rfl rfl ?_|refine A.p rfl ?_|refine A.b rfl fun bx=>?_|refine A.t rfl fun bl=>?_|refine A.step rfl ?_|refine A.v rfl rfl ?_); refine A.ret1 (Λ' := []) rfl rfl rfl (List.nil_sublist _) ⟨?_, rfl⟩; exact Sb.eq (ab_eq (bad_sound hv (by simp [soundB]; omega)).symm))); simp at he; (repeat first|refine A.s rfl ?_|refine A.r rfl rfl ?_|refine A.w rfl rfl ?_|refine A.p rfl ?_|refine A.b rfl fun bx=>?_|refine A.t rfl fun bl=>?_|refine A.step rfl ?_|refine A.v rfl rfl ?_); refine A.valE 3 rfl (x' := AI ((i + 1 : Nat) : Int)) (inc_eq i (by omega)) ?_; refine A.sub (by repeat (first | exact trivial | refine ⟨⟨_, rfl, .refl⟩, ?_⟩)) (ih (i + 1) ⟨by omega, ?_⟩ (by omega)); rw [good_succ hv, hi.2]; simp [soundB]; omega)
    refine A.valE 35 rfl (x' := AB true) (ab_eq (by simp [k3])) ?_
    ((repeat first|refine A.s rfl ?_|refine A.r rfl rfl ?_|refine A.w rfl rfl ?_|refine A.p rfl ?_|refine A.b rfl fun bx=>?_|refine A.t rfl fun bl=>?_|refine A.step rfl ?_|refine A.v rfl rfl ?_); refine A.ret1 (Λ' := []) rfl rfl rfl (List.nil_sublist _) ⟨?_, rfl⟩; exact Sb.eq (ab_eq (bad_sound hv (by simp [soundB]; omega)).symm))
  · simp at hc
    have : i = l.length := by omega
    subst this
    have h2 := hi.2
    rw [good_all] at h2
    (repeat first|refine A.s rfl ?_|refine A.r rfl rfl ?_|refine A.w rfl rfl ?_|refine A.p rfl ?_|refine A.b rfl fun bx=>?_|refine A.t rfl fun bl=>?_|refine A.step rfl ?_|refine A.v rfl rfl ?_); refine A.ret1 (Λ' := []) rfl rfl rfl (List.nil_sublist _) ⟨?_, rfl⟩; refine Sb.eq (ab_eq ?_); rw [soundsB, h2, decide_eq_true h]; rfl
theorem long_p (v : KV) : Pure Try.prog gs0 39 [encV v] (AI (if v.dim = 0 then 1 else v.dim)) := by
  refine Pure.of (S := tt) (fn := Try.f39) (n := 8) tt_ok Try.func39 rfl rfl rfl rfl fun w0 h0 F hgs => ?_
  (repeat first|refine A.s rfl ?_|refine A.r rfl rfl ?_|refine A.w rfl rfl ?_|refine A.p rfl ?_|refine A.b rfl fun bx=>?_|refine A.t rfl fun bl=>?_|refine A.step rfl ?_|refine A.v rfl rfl ?_)
  refine A.cond rfl (fun hc => ?_) (fun hc => ?_)
  · simp at hc; (repeat first|refine A.s rfl ?_|refine A.r rfl rfl ?_|refine A.w rfl rfl ?_|refine A.p rfl ?_|refine A.b rfl fun bx=>?_|refine A.t rfl fun bl=>?_|refine A.step rfl ?_|refine A.v rfl rfl ?_); refine A.ret1 (Λ' := []) rfl rfl rfl (List.nil_sublist _) ⟨?_, rfl⟩; refine Sb.eq (ai_eq ?_); rw [if_pos hc]
  · simp at hc; (repeat first|refine A.s rfl ?_|refine A.r rfl rfl ?_|refine A.w rfl rfl ?_|refine A.p rfl ?_|refine A.b rfl fun bx=>?_|refine A.t rfl fun bl=>?_|refine A.step rfl ?_|refine A.v rfl rfl ?_); refine A.ret1 (Λ' := []) rfl rfl rfl (List.nil_sublist _) ⟨?_, rfl⟩; refine Sb.eq (ai_eq ?_); rw [if_neg hc]

/-! ### ref17.Store -/
theorem storeM_at {l : List KV} {i : Nat} {v : KV} (h : l[i]? = some v) : ((storeM l).take i).map rowA ++ [rowA (List.replicate (longI v).toNat 0)] = ((storeM l).take (i + 1)).map rowA := by
  rw [List.take_add_one, storeM, List.getElem?_map, h]; simp
theorem rStore_p (l : List KV) (hb : l.length ≤ 281474976710656) : Pure Try.prog gs0 14 [kernA l] (rowsA (storeS l)) := by
  have hp := rsound_p l hb
  have hl : ((l.map encV).length : Int) = l.length := by rw [List.length_map]
  cases hs : soundsB l with
  | false =>
    rw [storeS, hs]
    rw [hs] at hp
    refine Pure.of (S := tt) (fn := Try.f14) (n := 27) tt_ok Try.func14 rfl rfl rfl rfl fun w0 h0 F hgs => ?_
    (repeat first|refine A.s rfl ?_|refine A.r rfl rfl ?_|refine A.w rfl rfl ?_|refine A.p rfl ?_|refine A.b rfl fun bx=>?_|refine A.t rfl fun bl=>?_|refine A.step rfl ?_|refine A.v rfl rfl ?_); refine A.c rfl (hp) .refl ?_; (repeat first|refine A.s rfl ?_|refine A.r rfl rfl ?_|refine A.w rfl rfl ?_|refine A.p rfl ?_|refine A.b rfl fun bx=>?_|refine A.t rfl fun bl=>?_|refine A.step rfl ?_|refine A.v rfl rfl ?_); refine A.ret1 (Λ' := []) rfl rfl rfl (List.nil_sublist _) ⟨?_, rfl⟩; exact .nil
  | true =>
    have hs0 := hs
    unfold soundsB at hs0
    simp at hs0
    rw [hs] at hp
    have hst : storeS l = storeM l := by rw [storeS, hs, if_pos rfl]
    rw [hst]
    refine Pure.of (S := tt) (fn := Try.f14) (n := 27) tt_ok Try.func14 rfl rfl rfl rfl fun w0 h0 F hgs => ?_
    (repeat first|refine A.s rfl ?_|refine A.r rfl rfl ?_|refine A.w rfl rfl ?_|refine A.p rfl ?_|refine A.b rfl fun bx=>?_|refine A.t rfl fun bl=>?_|refine A.step rfl ?_|refine A.v rfl rfl ?_); refine A.c rfl (hp) .refl ?_
    refine A.freeze 1 rfl (sz := 11) rfl rfl ?_
    (repeat first|refine A.s rfl ?_|refine A.r rfl rfl ?_|refine A.w rfl rfl ?_|refine A.p rfl ?_|refine A.b rfl fun bx=>?_|refine A.t rfl fun bl=>?_|refine A.step rfl ?_|refine A.v rfl rfl ?_)
    refine A.nilTail 3 1 rfl ?_
    refine A.keep [1, 3, 4] rfl ?_
    refine A.loopP (ι := Nat × Value) (fun p => (⟨[(1, .pe 11 (kernA l)), (3, .sl 1 (((storeM l).take p.1).map rowA) (some p.2)), (4, AI (p.1 : Nat))], []⟩, [.tail 1 p.2])) (fun p => p.1 ≤ l.length) (fun p => l.length - p.1) (0, .slice none 0 0) (Nat.zero_le _) rfl fun p hi ih => ?_
    (repeat first|refine A.s rfl ?_|refine A.r rfl rfl ?_|refine A.w rfl rfl ?_|refine A.p rfl ?_|refine A.b rfl fun bx=>?_|refine A.t rfl fun bl=>?_|refine A.step rfl ?_|refine A.v rfl rfl ?_)
    refine A.cond rfl (fun hc => ?_) (fun hc => ?_)
    · simp at hc
      refine Exists.elim (at_exN (l := l) (i := p.1) (by omega)) fun v hv => ?_
      have hvm := hs0.2 v (List.mem_of_getElem? hv)
      simp [soundB] at hvm
      have hlo : 1 ≤ longI v ∧ longI v ≤ 64 := by unfold longI; split <;> omega
      (repeat first|refine A.s rfl ?_|refine A.r rfl rfl ?_|refine A.w rfl rfl ?_|refine A.p rfl ?_|refine A.b rfl fun bx=>?_|refine A.t rfl fun bl=>?_|refine A.step rfl ?_|refine A.v rfl rfl ?_)
      refine A.x rfl (by omega) (map_at hv) rfl rfl ?_
      (repeat first|refine A.s rfl ?_|refine A.r rfl rfl ?_|refine A.w rfl rfl ?_|refine A.p rfl ?_|refine A.b rfl fun bx=>?_|refine A.t rfl fun bl=>?_|refine A.step rfl ?_|refine A.v rfl rfl ?_)
      refine A.c rfl (long_p v) .refl ?_
      refine A.valE 22 rfl (x' := AI (longI v)) (ai_eq (by unfold longI; split <;> split <;> omega)) ?_
      refine A.make rfl rfl rfl rfl rfl rfl rfl rfl rfl rfl rfl rfl (by omega) ?_ (by omega) fun z => ?_
      · show ((4 : Nat) : Int) * _ ≤ _
        omega
      refine A.freezeRow 23 rfl ?_
      refine A.valE 23 rfl (x' := rowA (List.replicate (longI v).toNat 0)) (by rw [rowA, List.map_replicate]; rfl) ?_
      (repeat first|refine A.s rfl ?_|refine A.r rfl rfl ?_|refine A.w rfl rfl ?_|refine A.p rfl ?_|refine A.b rfl fun bx=>?_|refine A.t rfl fun bl=>?_|refine A.step rfl ?_|refine A.v rfl rfl ?_)
      have hln : (((storeM l).take p.1).map rowA).length ≤ 256 := by rw [List.length_map, List.length_take, storeM, List.length_map]; omega
      refine A.entsEq (Λ' := [.tail ty54.size p.2]) rfl ?_
      refine A.append rfl rfl rfl rfl rfl rfl rfl rfl rfl rfl rfl rfl rfl rfl (by show ((List.map rowA _).length + 1) * 1 ≤ _; omega) fun z' => ?_
      refine A.valE 25 rfl (x' := .sl 1 (((storeM l).take (p.1 + 1)).map rowA) (some z')) (by rw [← storeM_at hv]; rfl) ?_
      (repeat first|refine A.s rfl ?_|refine A.r rfl rfl ?_|refine A.w rfl rfl ?_|refine A.p rfl ?_|refine A.b rfl fun bx=>?_|refine A.t rfl fun bl=>?_|refine A.step rfl ?_|refine A.v rfl rfl ?_)
      refine A.valE 4 rfl (x' := AI ((p.1 + 1 : Nat) : Int)) (inc_eq p.1 (by omega)) ?_
      refine A.sub (by repeat (first | exact trivial | refine ⟨⟨_, rfl, .refl⟩, ?_⟩)) (ih (p.1 + 1, z') (by show p.1 + 1 ≤ _; omega) (by show l.length - (p.1 + 1) < _; omega))
    · simp at hc
      have : p.1 = l.length := by omega
      (repeat first|refine A.s rfl ?_|refine A.r rfl rfl ?_|refine A.w rfl rfl ?_|refine A.p rfl ?_|refine A.b rfl fun bx=>?_|refine A.t rfl fun bl=>?_|refine A.step rfl ?_|refine A.v rfl rfl ?_); refine A.ret1 (Λ' := []) rfl rfl rfl (List.nil_sublist _) ⟨?_, rfl⟩
      refine Sb.own ?_
      rw [this, List.take_of_length_le (by rw [storeM, List.length_map]; exact Nat.le_refl _)]
      exact .refl

/-! ### ref17.Same -/
theorem rSame_p (a b : List (List Int)) (ha : short a) : Pure Try.prog gs0 15 [rowsA a, rowsA b] (AB (sameB a b)) := by
  have ha1 := ha.1
  by_cases hlen : a.length = b.length
  case neg =>
    refine Pure.of (S := tt) (fn := Try.f15) (n := 53) tt_ok Try.func15 rfl rfl rfl rfl fun w0 h0 F hgs => ?_
    (repeat first|refine A.s rfl ?_|refine A.r rfl rfl ?_|refine A.w rfl rfl ?_|refine A.p rfl ?_|refine A.b rfl fun bx=>?_|refine A.t rfl fun bl=>?_|refine A.step rfl ?_|refine A.v rfl rfl ?_)
    refine A.valE 11 rfl (x' := AB true) (ab_eq (by simp; omega)) ?_
    (repeat first|refine A.s rfl ?_|refine A.r rfl rfl ?_|refine A.w rfl rfl ?_|refine A.p rfl ?_|refine A.b rfl fun bx=>?_|refine A.t rfl fun bl=>?_|refine A.step rfl ?_|refine A.v rfl rfl ?_); refine A.ret1 (Λ' := []) rfl rfl rfl (List.nil_sublist _) ⟨?_, rfl⟩; refine Sb.eq (ab_eq ?_); simp [sameB, alikeB, hlen]
  refine Pure.of (S := tt) (fn := Try.f15) (n := 53) tt_ok Try.func15 rfl rfl rfl rfl fun w0 h0 F hgs => ?_
  (repeat first|refine A.s rfl ?_|refine A.r rfl rfl ?_|refine A.w rfl rfl ?_|refine A.p rfl ?_|refine A.b rfl fun bx=>?_|refine A.t rfl fun bl=>?_|refine A.step rfl ?_|refine A.v rfl rfl ?_)
  refine A.valE 11 rfl (x' := AB false) (ab_eq (by simp; omega)) ?_
  (repeat first|refine A.s rfl ?_|refine A.r rfl rfl ?_|refine A.w rfl rfl ?_|refine A.p rfl ?_|refine A.b rfl fun bx=>?_|refine A.t rfl fun bl=>?_|refine A.step rfl ?_|refine A.v rfl rfl ?_)
  refine A.keep [0, 1, 5] rfl ?_
  refine A.loopP (ι := Nat) (fun i => (⟨[(0, rowsA a), (1, rowsA b), (5, AI (i : Int))], []⟩, [])) (fun i => i ≤ a.length ∧ allEq (alikeB (· == ·)) a b i = true) (fun i => a.length - i) 0 ⟨by omega, rfl⟩ rfl fun i hi ih => ?_
  (repeat first|refine A.s rfl ?_|refine A.r rfl rfl ?_|refine A.w rfl rfl ?_|refine A.p rfl ?_|refine A.b rfl fun bx=>?_|refine A.t rfl fun bl=>?_|refine A.step rfl ?_|refine A.v rfl rfl ?_)
  refine A.cond rfl (fun hc => ?_) (fun hc => ?_)
  · simp at hc
    refine Exists.elim (at_exN (l := a) (i := i) (by omega)) fun x hx => Exists.elim (at_exN (l := b) (i := i) (by omega)) fun y hy => ?_
    have hxl := ha.2 x (List.mem_of_getElem? hx)
    have h1 := allEq_succ (alikeB (· == ·)) hx hy
    (repeat first|refine A.s rfl ?_|refine A.r rfl rfl ?_|refine A.w rfl rfl ?_|refine A.p rfl ?_|refine A.b rfl fun bx=>?_|refine A.t rfl fun bl=>?_|refine A.step rfl ?_|refine A.v rfl rfl ?_)
    refine A.draw 10 [0, 1, 2, 3, 4, 5, 6, 7, 8, 9] noPubs [] (by kernel_rfl) (by kernel_rfl) ?_
    (repeat first|refine WA.s rfl ?_|refine WA.r rfl rfl ?_|refine WA.p rfl ?_|refine WA.step rfl ?_|refine WA.v rfl rfl ?_); refine WA.x rfl (by omega) (map_at hx) rfl rfl ?_
    (repeat first|refine WA.s rfl ?_|refine WA.r rfl rfl ?_|refine WA.p rfl ?_|refine WA.step rfl ?_|refine WA.v rfl rfl ?_); refine WA.x rfl (by omega) (map_at hy) rfl rfl ?_
    (repeat first|refine WA.s rfl ?_|refine WA.r rfl rfl ?_|refine WA.p rfl ?_|refine WA.step rfl ?_|refine WA.v rfl rfl ?_); refine WA.nil (l := []) rfl ?_
    refine A.entsEq (Λ' := []) rfl ?_
    (repeat first|refine A.s rfl ?_|refine A.r rfl rfl ?_|refine A.w rfl rfl ?_|refine A.p rfl ?_|refine A.b rfl fun bx=>?_|refine A.t rfl fun bl=>?_|refine A.step rfl ?_|refine A.v rfl rfl ?_)
    refine A.cond rfl (fun hc => ?_) (fun hc => ?_)
    · simp at hc
      (repeat first|refine A.s rfl ?_|refine A.r rfl rfl ?_|refine A.w rfl rfl ?_|refine A.p rfl ?_|refine A.b rfl fun bx=>?_|refine A.t rfl fun bl=>?_|refine A.step rfl ?_|refine A.v rfl rfl ?_); refine A.ret1 (Λ' := []) rfl rfl rfl (List.nil_sublist _) ⟨?_, rfl⟩; refine Sb.eq (ab_eq ?_)
      have h2 := allEq_le (f := alikeB (· == ·)) (a := a) (b := b) (j := i + 1) (by rw [h1, alikeB, decide_eq_false (by omega)]; simp) a.length (by omega)
      rw [sameB, alikeB, h2]; simp
    · simp at hc
      have hxy : x.length = y.length := by omega
      (repeat first|refine A.s rfl ?_|refine A.r rfl rfl ?_|refine A.w rfl rfl ?_|refine A.p rfl ?_|refine A.b rfl fun bx=>?_|refine A.t rfl fun bl=>?_|refine A.step rfl ?_|refine A.v rfl rfl ?_)
      refine A.keep [0, 1, 5, 6] rfl ?_
      refine A.loopP (ι := Nat) (fun j => (⟨[(0, rowsA a), (1, rowsA b), (5, AI (i : Int)), (6, AI (j : Int))], []⟩, [])) (fun j => j ≤ x.length ∧ allEq (· == ·) x y j = true) (fun j => x.length - j) 0 ⟨by omega, rfl⟩ rfl fun j hj jh => ?_
      (repeat first|refine A.s rfl ?_|refine A.r rfl rfl ?_|refine A.w rfl rfl ?_|refine A.p rfl ?_|refine A.b rfl fun bx=>?_|refine A.t rfl fun bl=>?_|refine A.step rfl ?_|refine A.v rfl rfl ?_)
      refine A.x rfl (by omega) (map_at hx) rfl rfl ?_
      (repeat first|refine A.s rfl ?_|refine A.r rfl rfl ?_|refine A.w rfl rfl ?_|refine A.p rfl ?_|refine A.b rfl fun bx=>?_|refine A.t rfl fun bl=>?_|refine A.step rfl ?_|refine A.v rfl rfl ?_)
      refine A.cond rfl (fun hc => ?_) (fun hc => ?_)
      · rename_i hc0
        simp at hc
        refine Exists.elim (at_exN (l := x) (i := j) (by omega)) fun u hu => Exists.elim (at_exN (l := y) (i := j) (by omega)) fun w hw => ?_
        have h3 := allEq_succ (· == ·) hu hw
        (repeat first|refine A.s rfl ?_|refine A.r rfl rfl ?_|refine A.w rfl rfl ?_|refine A.p rfl ?_|refine A.b rfl fun bx=>?_|refine A.t rfl fun bl=>?_|refine A.step rfl ?_|refine A.v rfl rfl ?_)
        refine A.draw 14 [0, 1, 2, 3, 4, 5, 6, 7, 8, 9, 10, 11, 12, 13] noPubs [] (by kernel_rfl) (by kernel_rfl) ?_
        (repeat first|refine WA.s rfl ?_|refine WA.r rfl rfl ?_|refine WA.p rfl ?_|refine WA.step rfl ?_|refine WA.v rfl rfl ?_); refine WA.x rfl (by omega) (map_at hx) rfl rfl ?_
        (repeat first|refine WA.s rfl ?_|refine WA.r rfl rfl ?_|refine WA.p rfl ?_|refine WA.step rfl ?_|refine WA.v rfl rfl ?_); refine WA.x rfl (by omega) (map_at hu) rfl rfl ?_
        (repeat first|refine WA.s rfl ?_|refine WA.r rfl rfl ?_|refine WA.p rfl ?_|refine WA.step rfl ?_|refine WA.v rfl rfl ?_); refine WA.x rfl (by omega) (map_at hy) rfl rfl ?_
        (repeat first|refine WA.s rfl ?_|refine WA.r rfl rfl ?_|refine WA.p rfl ?_|refine WA.step rfl ?_|refine WA.v rfl rfl ?_); refine WA.x rfl (by omega) (map_at hw) rfl rfl ?_
        (repeat first|refine WA.s rfl ?_|refine WA.r rfl rfl ?_|refine WA.p rfl ?_|refine WA.step rfl ?_|refine WA.v rfl rfl ?_); refine WA.nil (l := []) rfl ?_
        refine A.entsEq (Λ' := []) rfl ?_
        (repeat first|refine A.s rfl ?_|refine A.r rfl rfl ?_|refine A.w rfl rfl ?_|refine A.p rfl ?_|refine A.b rfl fun bx=>?_|refine A.t rfl fun bl=>?_|refine A.step rfl ?_|refine A.v rfl rfl ?_)
        refine A.cond rfl (fun he => ?_) (fun he => ?_)
        · simp at he
          (repeat first|refine A.s rfl ?_|refine A.r rfl rfl ?_|refine A.w rfl rfl ?_|refine A.p rfl ?_|refine A.b rfl fun bx=>?_|refine A.t rfl fun bl=>?_|refine A.step rfl ?_|refine A.v rfl rfl ?_); refine A.ret1 (Λ' := []) rfl rfl rfl (List.nil_sublist _) ⟨?_, rfl⟩; refine Sb.eq (ab_eq ?_)
          have h4 := allEq_le (f := (· == ·)) (a := x) (b := y) (j := j + 1) (by rw [h3]; simp [he]) x.length (by omega)
          have h2 := allEq_le (f := alikeB (· == ·)) (a := a) (b := b) (j := i + 1) (by rw [h1]; simp [alikeB, h4]) a.length (by omega)
          rw [sameB, alikeB, h2]; simp
        · simp at he
          (repeat first|refine A.s rfl ?_|refine A.r rfl rfl ?_|refine A.w rfl rfl ?_|refine A.p rfl ?_|refine A.b rfl fun bx=>?_|refine A.t rfl fun bl=>?_|refine A.step rfl ?_|refine A.v rfl rfl ?_)
          refine A.valE 6 rfl (x' := AI ((j + 1 : Nat) : Int)) (inc_eq j (by omega)) ?_
          refine A.sub (by repeat (first | exact trivial | refine ⟨⟨_, rfl, .refl⟩, ?_⟩)) (jh (j + 1) ⟨by omega, by rw [h3]; simp [hj.2, he]⟩ (by omega))
      · simp at hc
        have hjl : j = x.length := by omega
        have h4 := hj.2
        rw [hjl] at h4
        (repeat first|refine A.s rfl ?_|refine A.r rfl rfl ?_|refine A.w rfl rfl ?_|refine A.p rfl ?_|refine A.b rfl fun bx=>?_|refine A.t rfl fun bl=>?_|refine A.step rfl ?_|refine A.v rfl rfl ?_)
        refine A.valE 5 rfl (x' := AI ((i + 1 : Nat) : Int)) (inc_eq i (by omega)) ?_
        refine A.sub (by repeat (first | exact trivial | refine ⟨⟨_, rfl, .refl⟩, ?_⟩)) (ih (i + 1) ⟨by omega, by rw [h1, hi.2, alikeB, h4, decide_eq_true hxy]; rfl⟩ (by omega))
  · simp at hc
    have : i = a.length := by omega
    subst this
    have h2 := hi.2
    (repeat first|refine A.s rfl ?_|refine A.r rfl rfl ?_|refine A.w rfl rfl ?_|refine A.p rfl ?_|refine A.b rfl fun bx=>?_|refine A.t rfl fun bl=>?_|refine A.step rfl ?_|refine A.v rfl rfl ?_); refine A.ret1 (Λ' := []) rfl rfl rfl (List.nil_sublist _) ⟨?_, rfl⟩; refine Sb.eq (ab_eq ?_); rw [sameB, alikeB, h2, decide_eq_true hlen]; rfl

/-! ### ref17.May -/
theorem rMay_p (l : List KV) (s : List (List Int)) (hb : l.length ≤ 281474976710656) (hs : short s) : Pure Try.prog gs0 17 [kernA l, rowsA s] (AB (mayB l s)) := by
  have hl : ((l.map encV).length : Int) = l.length := by rw [List.length_map]
  have hsl : ((s.map rowA).length : Int) = s.length := by rw [List.length_map]
  have hp := rsound_p l hb
  cases hso : soundsB l with
  | false =>
    rw [hso] at hp
    refine Pure.of (S := tt) (fn := Try.f17) (n := 67) tt_ok Try.func17 rfl rfl rfl rfl fun w0 h0 F hgs => ?_
    (repeat first|refine A.s rfl ?_|refine A.r rfl rfl ?_|refine A.w rfl rfl ?_|refine A.p rfl ?_|refine A.b rfl fun bx=>?_|refine A.t rfl fun bl=>?_|refine A.step rfl ?_|refine A.v rfl rfl ?_); refine A.c rfl (hp) .refl ?_; (repeat first|refine A.s rfl ?_|refine A.r rfl rfl ?_|refine A.w rfl rfl ?_|refine A.p rfl ?_|refine A.b rfl fun bx=>?_|refine A.t rfl fun bl=>?_|refine A.step rfl ?_|refine A.v rfl rfl ?_); refine A.ret1 (Λ' := []) rfl rfl rfl (List.nil_sublist _) ⟨?_, rfl⟩; refine Sb.eq (ab_eq ?_); simp [mayB, hso]
  | true =>
  rw [hso] at hp
  by_cases hlen : s.length = l.length
  case neg =>
    refine Pure.of (S := tt) (fn := Try.f17) (n := 67) tt_ok Try.func17 rfl rfl rfl rfl fun w0 h0 F hgs => ?_
    (repeat first|refine A.s rfl ?_|refine A.r rfl rfl ?_|refine A.w rfl rfl ?_|refine A.p rfl ?_|refine A.b rfl fun bx=>?_|refine A.t rfl fun bl=>?_|refine A.step rfl ?_|refine A.v rfl rfl ?_); refine A.c rfl (hp) .refl ?_; (repeat first|refine A.s rfl ?_|refine A.r rfl rfl ?_|refine A.w rfl rfl ?_|refine A.p rfl ?_|refine A.b rfl fun bx=>?_|refine A.t rfl fun bl=>?_|refine A.step rfl ?_|refine A.v rfl rfl ?_)
    refine A.valE 20 rfl (x' := AB true) (ab_eq (by simp; omega)) ?_
    (repeat first|refine A.s rfl ?_|refine A.r rfl rfl ?_|refine A.w rfl rfl ?_|refine A.p rfl ?_|refine A.b rfl fun bx=>?_|refine A.t rfl fun bl=>?_|refine A.step rfl ?_|refine A.v rfl rfl ?_); refine A.ret1 (Λ' := []) rfl rfl rfl (List.nil_sublist _) ⟨?_, rfl⟩; refine Sb.eq (ab_eq ?_); simp [mayB, hlen]
  have hs0 := hso
  unfold soundsB at hs0
  simp at hs0
  refine Pure.of (S := tt) (fn := Try.f17) (n := 67) tt_ok Try.func17 rfl rfl rfl rfl fun w0 h0 F hgs => ?_
  (repeat first|refine A.s rfl ?_|refine A.r rfl rfl ?_|refine A.w rfl rfl ?_|refine A.p rfl ?_|refine A.b rfl fun bx=>?_|refine A.t rfl fun bl=>?_|refine A.step rfl ?_|refine A.v rfl rfl ?_); refine A.c rfl (hp) .refl ?_
  refine A.freeze 2 rfl (sz := 11) rfl rfl ?_
  (repeat first|refine A.s rfl ?_|refine A.r rfl rfl ?_|refine A.w rfl rfl ?_|refine A.p rfl ?_|refine A.b rfl fun bx=>?_|refine A.t rfl fun bl=>?_|refine A.step rfl ?_|refine A.v rfl rfl ?_)
  refine A.valE 20 rfl (x' := AB false) (ab_eq (by simp; omega)) ?_
  (repeat first|refine A.s rfl ?_|refine A.r rfl rfl ?_|refine A.w rfl rfl ?_|refine A.p rfl ?_|refine A.b rfl fun bx=>?_|refine A.t rfl fun bl=>?_|refine A.step rfl ?_|refine A.v rfl rfl ?_)
  refine A.keep [1, 2, 5] rfl ?_
  refine A.loopP (ι := Nat) (fun i => (⟨[(1, rowsA s), (2, .pe 11 (kernA l)), (5, AI (i : Int))], []⟩, [])) (fun i => i ≤ l.length ∧ allEq mayRow l s i = true) (fun i => l.length - i) 0 ⟨by omega, rfl⟩ rfl fun i hi ih => ?_
  (repeat first|refine A.s rfl ?_|refine A.r rfl rfl ?_|refine A.w rfl rfl ?_|refine A.p rfl ?_|refine A.b rfl fun bx=>?_|refine A.t rfl fun bl=>?_|refine A.step rfl ?_|refine A.v rfl rfl ?_)
  refine A.cond rfl (fun hc => ?_) (fun hc => ?_)
  · simp at hc
    refine Exists.elim (at_exN (l := l) (i := i) (by omega)) fun v hv => Exists.elim (at_exN (l := s) (i := i) (by omega)) fun x hx => ?_
    have hvm := hs0.2 v (List.mem_of_getElem? hv)
    simp [soundB] at hvm
    have hlo : longI v = if v.dim = 0 then 1 else v.dim := by unfold longI; split <;> split <;> omega
    have hxl := hs.2 x (List.mem_of_getElem? hx)
    have h1 := allEq_succ mayRow hv hx
    (repeat first|refine A.s rfl ?_|refine A.r rfl rfl ?_|refine A.w rfl rfl ?_|refine A.p rfl ?_|refine A.b rfl fun bx=>?_|refine A.t rfl fun bl=>?_|refine A.step rfl ?_|refine A.v rfl rfl ?_)
    refine A.draw 11 [0, 1, 2, 3, 4, 5, 6, 7, 8, 9, 10] noPubs [(10, AI (if v.dim = 0 then 1 else v.dim))] (by kernel_rfl) (by kernel_rfl) ?_
    (repeat first|refine WA.s rfl ?_|refine WA.r rfl rfl ?_|refine WA.p rfl ?_|refine WA.step rfl ?_|refine WA.v rfl rfl ?_); refine WA.x rfl (by omega) (map_at hx) rfl rfl ?_
    (repeat first|refine WA.s rfl ?_|refine WA.r rfl rfl ?_|refine WA.p rfl ?_|refine WA.step rfl ?_|refine WA.v rfl rfl ?_); refine WA.x rfl (by omega) (map_at hv) rfl rfl ?_
    (repeat first|refine WA.s rfl ?_|refine WA.r rfl rfl ?_|refine WA.p rfl ?_|refine WA.step rfl ?_|refine WA.v rfl rfl ?_); refine WA.c rfl rfl (long_p v) (.sub .refl) ?_
    refine WA.nil (l := []) rfl ?_
    refine A.entsEq (Λ' := []) rfl ?_
    (repeat first|refine A.s rfl ?_|refine A.r rfl rfl ?_|refine A.w rfl rfl ?_|refine A.p rfl ?_|refine A.b rfl fun bx=>?_|refine A.t rfl fun bl=>?_|refine A.step rfl ?_|refine A.v rfl rfl ?_)
    refine A.cond rfl (fun hc => ?_) (fun hc => ?_)
    · have hne : ((x.length : Int) == longI v) = false := by simp at hc; rw [hlo]; simpa using hc
      (repeat first|refine A.s rfl ?_|refine A.r rfl rfl ?_|refine A.w rfl rfl ?_|refine A.p rfl ?_|refine A.b rfl fun bx=>?_|refine A.t rfl fun bl=>?_|refine A.step rfl ?_|refine A.v rfl rfl ?_); refine A.ret1 (Λ' := []) rfl rfl rfl (List.nil_sublist _) ⟨?_, rfl⟩; refine Sb.eq (ab_eq ?_)
      have h2 := allEq_le (f := mayRow) (a := l) (b := s) (j := i + 1) (by rw [h1, mayRow, hne]; simp) l.length (by omega)
      rw [mayB, h2]; simp
    · have heq : ((x.length : Int) == longI v) = true := by simp at hc; rw [hlo]; simpa using hc
      (repeat first|refine A.s rfl ?_|refine A.r rfl rfl ?_|refine A.w rfl rfl ?_|refine A.p rfl ?_|refine A.b rfl fun bx=>?_|refine A.t rfl fun bl=>?_|refine A.step rfl ?_|refine A.v rfl rfl ?_)
      refine A.keep [1, 2, 5, 6] rfl ?_
      refine A.loopP (ι := Nat) (fun j => (⟨[(1, rowsA s), (2, .pe 11 (kernA l)), (5, AI (i : Int)), (6, AI (j : Int))], []⟩, [])) (fun j => j ≤ x.length ∧ x.any (fun u => !fitsB v.kind u) = (x.drop j).any (fun u => !fitsB v.kind u)) (fun j => x.length - j) 0 ⟨by omega, rfl⟩ rfl fun j hj jh => ?_
      (repeat first|refine A.s rfl ?_|refine A.r rfl rfl ?_|refine A.w rfl rfl ?_|refine A.p rfl ?_|refine A.b rfl fun bx=>?_|refine A.t rfl fun bl=>?_|refine A.step rfl ?_|refine A.v rfl rfl ?_)
      refine A.x rfl (by omega) (map_at hx) rfl rfl ?_
      (repeat first|refine A.s rfl ?_|refine A.r rfl rfl ?_|refine A.w rfl rfl ?_|refine A.p rfl ?_|refine A.b rfl fun bx=>?_|refine A.t rfl fun bl=>?_|refine A.step rfl ?_|refine A.v rfl rfl ?_)
      refine A.cond rfl (fun hc => ?_) (fun hc => ?_)
      · rename_i hc0
        simp at hc
        refine Exists.elim (at_exN (l := x) (i := j) (by omega)) fun u hu => ?_
        have hj2 := hj.2
        rw [drop_at hu, List.any_cons] at hj2
        (repeat first|refine A.s rfl ?_|refine A.r rfl rfl ?_|refine A.w rfl rfl ?_|refine A.p rfl ?_|refine A.b rfl fun bx=>?_|refine A.t rfl fun bl=>?_|refine A.step rfl ?_|refine A.v rfl rfl ?_)
        refine A.draw 18 [0, 1, 2, 3, 4, 5, 6, 7, 8, 9, 10, 11, 12, 13, 14, 15, 16, 17] noPubs [(13, optA (convC v.kind u))] (by kernel_rfl) (by kernel_rfl) ?_
        (repeat first|refine WA.s rfl ?_|refine WA.r rfl rfl ?_|refine WA.p rfl ?_|refine WA.step rfl ?_|refine WA.v rfl rfl ?_); refine WA.x rfl (by omega) (map_at hv) rfl rfl ?_
        (repeat first|refine WA.s rfl ?_|refine WA.r rfl rfl ?_|refine WA.p rfl ?_|refine WA.step rfl ?_|refine WA.v rfl rfl ?_); refine WA.x rfl (by omega) (map_at hx) rfl rfl ?_
        (repeat first|refine WA.s rfl ?_|refine WA.r rfl rfl ?_|refine WA.p rfl ?_|refine WA.step rfl ?_|refine WA.v rfl rfl ?_); refine WA.x rfl (by omega) (map_at hu) rfl rfl ?_
        (repeat first|refine WA.s rfl ?_|refine WA.r rfl rfl ?_|refine WA.p rfl ?_|refine WA.step rfl ?_|refine WA.v rfl rfl ?_); refine WA.c rfl rfl (conv_p _ _) (.sub .refl) ?_
        (repeat first|refine WA.s rfl ?_|refine WA.r rfl rfl ?_|refine WA.p rfl ?_|refine WA.step rfl ?_|refine WA.v rfl rfl ?_)
        refine WA.nil (l := []) rfl ?_
        refine A.entsEq (Λ' := []) rfl ?_
        (repeat first|refine A.s rfl ?_|refine A.r rfl rfl ?_|refine A.w rfl rfl ?_|refine A.p rfl ?_|refine A.b rfl fun bx=>?_|refine A.t rfl fun bl=>?_|refine A.step rfl ?_|refine A.v rfl rfl ?_)
        refine A.cond rfl (fun he => ?_) (fun he => ?_)
        · rw [conv_fits] at he
          have hf : fitsB v.kind u = false := by revert he; cases fitsB v.kind u <;> simp
          rw [hf] at hj2
          (repeat first|refine A.s rfl ?_|refine A.r rfl rfl ?_|refine A.w rfl rfl ?_|refine A.p rfl ?_|refine A.b rfl fun bx=>?_|refine A.t rfl fun bl=>?_|refine A.step rfl ?_|refine A.v rfl rfl ?_); refine A.ret1 (Λ' := []) rfl rfl rfl (List.nil_sublist _) ⟨?_, rfl⟩; refine Sb.eq (ab_eq ?_)
          have h2 := allEq_le (f := mayRow) (a := l) (b := s) (j := i + 1) (by rw [h1, mayRow, hj2]; simp) l.length (by omega)
          rw [mayB, h2]; simp
        · rw [conv_fits] at he
          have hf : fitsB v.kind u = true := by revert he; cases fitsB v.kind u <;> simp
          rw [hf] at hj2
          (repeat first|refine A.s rfl ?_|refine A.r rfl rfl ?_|refine A.w rfl rfl ?_|refine A.p rfl ?_|refine A.b rfl fun bx=>?_|refine A.t rfl fun bl=>?_|refine A.step rfl ?_|refine A.v rfl rfl ?_)
          refine A.valE 6 rfl (x' := AI ((j + 1 : Nat) : Int)) (inc_eq j (by omega)) ?_
          refine A.sub (by repeat (first | exact trivial | refine ⟨⟨_, rfl, .refl⟩, ?_⟩)) (jh (j + 1) ⟨by omega, by simpa using hj2⟩ (by omega))
      · simp at hc
        have hjl : j = x.length := by omega
        have h4 := hj.2
        rw [hjl, List.drop_length] at h4
        (repeat first|refine A.s rfl ?_|refine A.r rfl rfl ?_|refine A.w rfl rfl ?_|refine A.p rfl ?_|refine A.b rfl fun bx=>?_|refine A.t rfl fun bl=>?_|refine A.step rfl ?_|refine A.v rfl rfl ?_)
        refine A.valE 5 rfl (x' := AI ((i + 1 : Nat) : Int)) (inc_eq i (by omega)) ?_
        refine A.sub (by repeat (first | exact trivial | refine ⟨⟨_, rfl, .refl⟩, ?_⟩)) (ih (i + 1) ⟨by omega, by rw [h1, hi.2, mayRow, heq, h4]; rfl⟩ (by omega))
  · simp at hc
    have : i = l.length := by omega
    subst this
    (repeat first|refine A.s rfl ?_|refine A.r rfl rfl ?_|refine A.w rfl rfl ?_|refine A.p rfl ?_|refine A.b rfl fun bx=>?_|refine A.t rfl fun bl=>?_|refine A.step rfl ?_|refine A.v rfl rfl ?_); refine A.ret1 (Λ' := []) rfl rfl rfl (List.nil_sublist _) ⟨?_, rfl⟩; refine Sb.eq (ab_eq ?_); rw [mayB, hso, hi.2, decide_eq_true hlen]; rfl
end Go.Proofs.Ytbbainjecjdkmaa
