/-
  Chapter 17: EvalReads.
-/
import Derived.Test.YtbbainjecjdkmaaQ17p

namespace Go.Proofs.Ytbbainjecjdkmaa
open Go Go.Tp
set_option linter.unusedVariables false
set_option linter.unusedSimpArgs false
set_option maxRecDepth 100000
set_option maxHeartbeats 4000000

mutual
/-- a variable occurs -/
def usesB (k : Int) : KE → Bool
  | ⟨kk, o, t, n, v, l⟩ => ((kk == 2 || kk == 3) && v == k) || usesL k l
def usesL (k : Int) : List KE → Bool
  | [] => false
  | e :: r => usesB k e || usesL k r
end
theorem usesB_eq (k : Int) (e : KE) : usesB k e = (((e.kind == 2 || e.kind == 3) && e.v == k) || usesL k e.l) := by obtain ⟨kk, o, t, n, v, l⟩ := e; rw [usesB]
theorem usesL_append (k : Int) (a b : List KE) : usesL k (a ++ b) = (usesL k a || usesL k b) := by
  induction a with
  | nil => simp [usesL]
  | cons x r ih => rw [List.cons_append, usesL, usesL, ih, Bool.or_assoc]
theorem usesL_mem {k : Int} : ∀ {l : List KE} {x : KE}, x ∈ l → usesB k x = true → usesL k l = true
  | [], _, h, _ => by cases h
  | y :: r, x, h, hu => by
    rw [usesL]
    rcases List.mem_cons.1 h with rfl | h
    · rw [hu]; rfl
    · rw [usesL_mem h hu]; simp
theorem ht_eq (e : KE) : ht e = 1 + htl e.l := by obtain ⟨k, o, t, n, v, l⟩ := e; rw [ht]
theorem htl_le : ∀ {l : List KE} {x : KE}, x ∈ l → ht x ≤ htl l
  | [], _, h => by cases h
  | y :: r, x, h => by
    rw [htl]
    rcases List.mem_cons.1 h with rfl | h
    · omega
    · have := htl_le h; omega
theorem fine_mem : ∀ {l : List KE}, finel l = true → ∀ x, x ∈ l → fine x = true
  | [], _, _, h => by cases h
  | y :: r, hf, x, h => by
    simp only [finel, Bool.and_eq_true] at hf
    rcases List.mem_cons.1 h with rfl | h
    · exact hf.1
    · exact fine_mem hf.2 x h
theorem fine_l {e : KE} (h : fine e = true) : finel e.l = true := by obtain ⟨k, o, t, n, v, l⟩ := e; simp only [fine, Bool.and_eq_true] at h; exact h.2
theorem fine_len {e : KE} (h : fine e = true) : e.l.length ≤ 2 := by
  rcases fine_cases h with ⟨n, rfl⟩ | ⟨v, _, _, rfl⟩ | ⟨v, a, _, _, _, rfl⟩ | ⟨o, a, _, _, _, rfl⟩ | ⟨o, a, b, _, _, _, _, rfl⟩ | ⟨t, a, _, _, _, rfl⟩ <;> simp
theorem encKl_at {l : List KE} {i : Nat} {x : KE} (h : l[i]? = some x) : (encKl l)[i]? = some (encK x) := by rw [encKl_map]; exact map_at h
abbrev cellsK (e : KE) : AV := .ag [AU8 e.kind, AU8 e.oper, AU8 e.to, AI32 e.n, AI e.v, .sl 6 (encKl e.l) none]
theorem uses_p (k : Int) : ∀ (N : Nat) (e : KE) (deep : Int), ht e ≤ N → (ht e : Int) ≤ deep + 1 → deep ≤ 1000 → fine e = true → Pure Try.prog gs0 26 [encK e, AI k, AI deep] (AB (usesB k e))
  | 0, e, _, hn, _, _, _ => by rw [ht_eq] at hn; omega
  | N + 1, e, deep, hn, hd, hd2, hf => by
    have h2 := fine_len hf
    have hfl := fine_l hf
    have hh := ht_eq e
    have hlen : ((encKl e.l).length : Int) = e.l.length := by rw [encKl_len]
    rw [encK_eq]
    by_cases h1 : e.kind = 2 ∨ e.kind = 3
    · by_cases h3 : e.v = k
      · by_cases h4 : e.kind = 2
        · refine Pure.of (S := tt) (fn := Try.f26) (n := 40) tt_ok Try.func26 rfl rfl rfl rfl fun w0 h0 F hgs => ?_
          (repeat first|refine A.s rfl ?_|refine A.r rfl rfl ?_|refine A.w rfl rfl ?_|refine A.p rfl ?_|refine A.b rfl fun bx=>?_|refine A.t rfl fun bl=>?_)
          refine A.valE 12 rfl (x' := AB true) (ab_eq (by simp [h4])) ?_
          (repeat first|refine A.s rfl ?_|refine A.r rfl rfl ?_|refine A.w rfl rfl ?_|refine A.p rfl ?_|refine A.b rfl fun bx=>?_|refine A.t rfl fun bl=>?_)
          refine A.valE 22 rfl (x' := AB true) (ab_eq (by simp [h3])) ?_
          (repeat first|refine A.s rfl ?_|refine A.r rfl rfl ?_|refine A.w rfl rfl ?_|refine A.p rfl ?_|refine A.b rfl fun bx=>?_|refine A.t rfl fun bl=>?_); refine A.ret1 (Λ' := []) rfl rfl rfl (List.nil_sublist _) ⟨?_, rfl⟩; refine Sb.eq (ab_eq ?_); rw [usesB_eq]; simp [h1, h3]
        · refine Pure.of (S := tt) (fn := Try.f26) (n := 40) tt_ok Try.func26 rfl rfl rfl rfl fun w0 h0 F hgs => ?_
          (repeat first|refine A.s rfl ?_|refine A.r rfl rfl ?_|refine A.w rfl rfl ?_|refine A.p rfl ?_|refine A.b rfl fun bx=>?_|refine A.t rfl fun bl=>?_)
          refine A.valE 12 rfl (x' := AB false) (ab_eq (by simp [h4])) ?_
          (repeat first|refine A.s rfl ?_|refine A.r rfl rfl ?_|refine A.w rfl rfl ?_|refine A.p rfl ?_|refine A.b rfl fun bx=>?_|refine A.t rfl fun bl=>?_)
          refine A.valE 17 rfl (x' := AB true) (ab_eq (by simp; omega)) ?_
          (repeat first|refine A.s rfl ?_|refine A.r rfl rfl ?_|refine A.w rfl rfl ?_|refine A.p rfl ?_|refine A.b rfl fun bx=>?_|refine A.t rfl fun bl=>?_)
          refine A.valE 22 rfl (x' := AB true) (ab_eq (by simp [h3])) ?_
          (repeat first|refine A.s rfl ?_|refine A.r rfl rfl ?_|refine A.w rfl rfl ?_|refine A.p rfl ?_|refine A.b rfl fun bx=>?_|refine A.t rfl fun bl=>?_); refine A.ret1 (Λ' := []) rfl rfl rfl (List.nil_sublist _) ⟨?_, rfl⟩; refine Sb.eq (ab_eq ?_); rw [usesB_eq]; simp [h1, h3]
      · have hno : ((e.kind == 2 || e.kind == 3) && e.v == k) = false := by simp [h3]
        by_cases h4 : e.kind = 2
        · refine Pure.of (S := tt) (fn := Try.f26) (n := 40) tt_ok Try.func26 rfl rfl rfl rfl fun w0 h0 F hgs => ?_
          (repeat first|refine A.s rfl ?_|refine A.r rfl rfl ?_|refine A.w rfl rfl ?_|refine A.p rfl ?_|refine A.b rfl fun bx=>?_|refine A.t rfl fun bl=>?_)
          refine A.valE 12 rfl (x' := AB true) (ab_eq (by simp [h4])) ?_
          (repeat first|refine A.s rfl ?_|refine A.r rfl rfl ?_|refine A.w rfl rfl ?_|refine A.p rfl ?_|refine A.b rfl fun bx=>?_|refine A.t rfl fun bl=>?_)
          refine A.valE 22 rfl (x' := AB false) (ab_eq (by simp [h3])) ?_
          ((repeat first|refine A.s rfl ?_|refine A.r rfl rfl ?_|refine A.w rfl rfl ?_|refine A.p rfl ?_|refine A.b rfl fun bx=>?_|refine A.t rfl fun bl=>?_|refine A.step rfl ?_|refine A.v rfl rfl ?_); refine A.valE 25 rfl (x' := AI (e.l.length : Nat)) (ai_eq hlen) ?_; refine A.keep [1, 2, 3, 24, 25, 26] rfl ?_; refine A.loopP (ι := Nat) (fun i => (⟨[(1, AI k), (2, AI deep), (3, .v (.pointer (some ⟨bx, 0, none⟩))), (24, .sl 6 (encKl e.l) none), (25, AI (e.l.length : Nat)), (26, AI (i : Nat))], []⟩, [.box bx (cellsK e)])) (fun i => i ≤ e.l.length ∧ usesL k (e.l.take i) = false) (fun i => e.l.length - i) 0 ⟨Nat.zero_le _, rfl⟩ rfl fun i hi ih => ?_; (repeat first|refine A.s rfl ?_|refine A.r rfl rfl ?_|refine A.w rfl rfl ?_|refine A.p rfl ?_|refine A.b rfl fun bx=>?_|refine A.t rfl fun bl=>?_|refine A.step rfl ?_|refine A.v rfl rfl ?_); refine A.cond rfl (fun hc => ?_) (fun hc => ?_); (simp at hc; refine Exists.elim (at_exN (l := e.l) (i := i) (by omega)) fun x hx => ?_; (have hxm := List.mem_of_getElem? hx; have hxl := htl_le hxm; have hxp := ht_pos x; have ux := uses_p k N x (deep - 1) (by omega) (by omega) (by omega) (fine_mem hfl x hxm); have eNx := inc_eq i (by omega); have ewd : IntKind.i64.wrap (deep - 1) = deep - 1 := wr64 _ (by omega); have etk : usesL k (e.l.take (i + 1)) = usesB k x := (by rw [List.take_add_one, hx, usesL_append, hi.2]; simp [usesL]); rw [encK_eq x] at ux; (repeat first|refine A.s rfl ?_|refine A.r rfl rfl ?_|refine A.w rfl rfl ?_|refine A.p rfl ?_|refine A.b rfl fun bx=>?_|refine A.t rfl fun bl=>?_); refine A.x rfl (by omega) (encKl_at hx) (encK_eq x) rfl ?_; (repeat first|refine A.s rfl ?_|refine A.r rfl rfl ?_|refine A.w rfl rfl ?_|refine A.p rfl ?_|refine A.b rfl fun bx=>?_|refine A.t rfl fun bl=>?_); refine A.valE 32 rfl (x' := AB true) (ab_eq (by simp; omega)) ?_; (repeat first|refine A.s rfl ?_|refine A.r rfl rfl ?_|refine A.w rfl rfl ?_|refine A.p rfl ?_|refine A.b rfl fun bx=>?_|refine A.t rfl fun bl=>?_); refine A.valE 36 rfl (x' := AI (deep - 1)) (ai_eq ewd) ?_; refine A.c rfl ux .refl ?_; refine A.split 37 rfl (fun hu => ?_) (fun hu => ?_); ((repeat first|refine A.s rfl ?_|refine A.r rfl rfl ?_|refine A.w rfl rfl ?_|refine A.p rfl ?_|refine A.b rfl fun bx=>?_|refine A.t rfl fun bl=>?_); refine A.ret1 (Λ' := []) rfl rfl rfl (List.nil_sublist _) ⟨?_, rfl⟩; refine Sb.eq (ab_eq ?_); rw [usesB_eq, usesL_mem hxm hu]; simp); ((repeat first|refine A.s rfl ?_|refine A.r rfl rfl ?_|refine A.w rfl rfl ?_|refine A.p rfl ?_|refine A.b rfl fun bx=>?_|refine A.t rfl fun bl=>?_|refine A.step rfl ?_|refine A.v rfl rfl ?_); refine A.valE 26 rfl (x' := AI ((i + 1 : Nat) : Int)) eNx ?_; refine A.less (Λ' := [.box _ (cellsK e)]) (by repeat (first | exact List.Sublist.refl _ | apply List.Sublist.cons_cons | apply List.Sublist.cons)) ?_; refine A.sub (by repeat (first | exact trivial | refine ⟨⟨_, rfl, .refl⟩, ?_⟩)) (ih (i + 1) ⟨by omega, by rw [etk]; exact hu⟩ (by omega))))); (simp at hc; (repeat first|refine A.s rfl ?_|refine A.r rfl rfl ?_|refine A.w rfl rfl ?_|refine A.p rfl ?_|refine A.b rfl fun bx=>?_|refine A.t rfl fun bl=>?_); refine A.ret1 (Λ' := []) rfl rfl rfl (List.nil_sublist _) ⟨?_, rfl⟩; refine Sb.eq (ab_eq ?_); have hi2 := hi.2; rw [List.take_of_length_le (by omega)] at hi2; rw [usesB_eq, hno, hi2]; rfl))
        · refine Pure.of (S := tt) (fn := Try.f26) (n := 40) tt_ok Try.func26 rfl rfl rfl rfl fun w0 h0 F hgs => ?_
          (repeat first|refine A.s rfl ?_|refine A.r rfl rfl ?_|refine A.w rfl rfl ?_|refine A.p rfl ?_|refine A.b rfl fun bx=>?_|refine A.t rfl fun bl=>?_)
          refine A.valE 12 rfl (x' := AB false) (ab_eq (by simp [h4])) ?_
          (repeat first|refine A.s rfl ?_|refine A.r rfl rfl ?_|refine A.w rfl rfl ?_|refine A.p rfl ?_|refine A.b rfl fun bx=>?_|refine A.t rfl fun bl=>?_)
          refine A.valE 17 rfl (x' := AB true) (ab_eq (by simp; omega)) ?_
          (repeat first|refine A.s rfl ?_|refine A.r rfl rfl ?_|refine A.w rfl rfl ?_|refine A.p rfl ?_|refine A.b rfl fun bx=>?_|refine A.t rfl fun bl=>?_)
          refine A.valE 22 rfl (x' := AB false) (ab_eq (by simp [h3])) ?_
          ((repeat first|refine A.s rfl ?_|refine A.r rfl rfl ?_|refine A.w rfl rfl ?_|refine A.p rfl ?_|refine A.b rfl fun bx=>?_|refine A.t rfl fun bl=>?_|refine A.step rfl ?_|refine A.v rfl rfl ?_); refine A.valE 25 rfl (x' := AI (e.l.length : Nat)) (ai_eq hlen) ?_; refine A.keep [1, 2, 3, 24, 25, 26] rfl ?_; refine A.loopP (ι := Nat) (fun i => (⟨[(1, AI k), (2, AI deep), (3, .v (.pointer (some ⟨bx, 0, none⟩))), (24, .sl 6 (encKl e.l) none), (25, AI (e.l.length : Nat)), (26, AI (i : Nat))], []⟩, [.box bx (cellsK e)])) (fun i => i ≤ e.l.length ∧ usesL k (e.l.take i) = false) (fun i => e.l.length - i) 0 ⟨Nat.zero_le _, rfl⟩ rfl fun i hi ih => ?_; (repeat first|refine A.s rfl ?_|refine A.r rfl rfl ?_|refine A.w rfl rfl ?_|refine A.p rfl ?_|refine A.b rfl fun bx=>?_|refine A.t rfl fun bl=>?_|refine A.step rfl ?_|refine A.v rfl rfl ?_); refine A.cond rfl (fun hc => ?_) (fun hc => ?_); (simp at hc; refine Exists.elim (at_exN (l := e.l) (i := i) (by omega)) fun x hx => ?_; (have hxm := List.mem_of_getElem? hx; have hxl := htl_le hxm; have hxp := ht_pos x; have ux := uses_p k N x (deep - 1) (by omega) (by omega) (by omega) (fine_mem hfl x hxm); have eNx := inc_eq i (by omega); have ewd : IntKind.i64.wrap (deep - 1) = deep - 1 := wr64 _ (by omega); have etk : usesL k (e.l.take (i + 1)) = usesB k x := (by rw [List.take_add_one, hx, usesL_append, hi.2]; simp [usesL]); rw [encK_eq x] at ux; (repeat first|refine A.s rfl ?_|refine A.r rfl rfl ?_|refine A.w rfl rfl ?_|refine A.p rfl ?_|refine A.b rfl fun bx=>?_|refine A.t rfl fun bl=>?_); refine A.x rfl (by omega) (encKl_at hx) (encK_eq x) rfl ?_; (repeat first|refine A.s rfl ?_|refine A.r rfl rfl ?_|refine A.w rfl rfl ?_|refine A.p rfl ?_|refine A.b rfl fun bx=>?_|refine A.t rfl fun bl=>?_); refine A.valE 32 rfl (x' := AB true) (ab_eq (by simp; omega)) ?_; (repeat first|refine A.s rfl ?_|refine A.r rfl rfl ?_|refine A.w rfl rfl ?_|refine A.p rfl ?_|refine A.b rfl fun bx=>?_|refine A.t rfl fun bl=>?_); refine A.valE 36 rfl (x' := AI (deep - 1)) (ai_eq ewd) ?_; refine A.c rfl ux .refl ?_; refine A.split 37 rfl (fun hu => ?_) (fun hu => ?_); ((repeat first|refine A.s rfl ?_|refine A.r rfl rfl ?_|refine A.w rfl rfl ?_|refine A.p rfl ?_|refine A.b rfl fun bx=>?_|refine A.t rfl fun bl=>?_); refine A.ret1 (Λ' := []) rfl rfl rfl (List.nil_sublist _) ⟨?_, rfl⟩; refine Sb.eq (ab_eq ?_); rw [usesB_eq, usesL_mem hxm hu]; simp); ((repeat first|refine A.s rfl ?_|refine A.r rfl rfl ?_|refine A.w rfl rfl ?_|refine A.p rfl ?_|refine A.b rfl fun bx=>?_|refine A.t rfl fun bl=>?_|refine A.step rfl ?_|refine A.v rfl rfl ?_); refine A.valE 26 rfl (x' := AI ((i + 1 : Nat) : Int)) eNx ?_; refine A.less (Λ' := [.box _ (cellsK e)]) (by repeat (first | exact List.Sublist.refl _ | apply List.Sublist.cons_cons | apply List.Sublist.cons)) ?_; refine A.sub (by repeat (first | exact trivial | refine ⟨⟨_, rfl, .refl⟩, ?_⟩)) (ih (i + 1) ⟨by omega, by rw [etk]; exact hu⟩ (by omega))))); (simp at hc; (repeat first|refine A.s rfl ?_|refine A.r rfl rfl ?_|refine A.w rfl rfl ?_|refine A.p rfl ?_|refine A.b rfl fun bx=>?_|refine A.t rfl fun bl=>?_); refine A.ret1 (Λ' := []) rfl rfl rfl (List.nil_sublist _) ⟨?_, rfl⟩; refine Sb.eq (ab_eq ?_); have hi2 := hi.2; rw [List.take_of_length_le (by omega)] at hi2; rw [usesB_eq, hno, hi2]; rfl))
    · have hno : ((e.kind == 2 || e.kind == 3) && e.v == k) = false := by
        have h5 : e.kind ≠ 2 := fun h => h1 (.inl h)
        have h6 : e.kind ≠ 3 := fun h => h1 (.inr h)
        simp [h5, h6]
      refine Pure.of (S := tt) (fn := Try.f26) (n := 40) tt_ok Try.func26 rfl rfl rfl rfl fun w0 h0 F hgs => ?_
      (repeat first|refine A.s rfl ?_|refine A.r rfl rfl ?_|refine A.w rfl rfl ?_|refine A.p rfl ?_|refine A.b rfl fun bx=>?_|refine A.t rfl fun bl=>?_)
      refine A.valE 12 rfl (x' := AB false) (ab_eq (by simp; omega)) ?_
      (repeat first|refine A.s rfl ?_|refine A.r rfl rfl ?_|refine A.w rfl rfl ?_|refine A.p rfl ?_|refine A.b rfl fun bx=>?_|refine A.t rfl fun bl=>?_)
      refine A.valE 17 rfl (x' := AB false) (ab_eq (by simp; omega)) ?_
      (repeat first|refine A.s rfl ?_|refine A.r rfl rfl ?_|refine A.w rfl rfl ?_|refine A.p rfl ?_|refine A.b rfl fun bx=>?_|refine A.t rfl fun bl=>?_)
      ((repeat first|refine A.s rfl ?_|refine A.r rfl rfl ?_|refine A.w rfl rfl ?_|refine A.p rfl ?_|refine A.b rfl fun bx=>?_|refine A.t rfl fun bl=>?_|refine A.step rfl ?_|refine A.v rfl rfl ?_); refine A.valE 25 rfl (x' := AI (e.l.length : Nat)) (ai_eq hlen) ?_; refine A.keep [1, 2, 3, 24, 25, 26] rfl ?_; refine A.loopP (ι := Nat) (fun i => (⟨[(1, AI k), (2, AI deep), (3, .v (.pointer (some ⟨bx, 0, none⟩))), (24, .sl 6 (encKl e.l) none), (25, AI (e.l.length : Nat)), (26, AI (i : Nat))], []⟩, [.box bx (cellsK e)])) (fun i => i ≤ e.l.length ∧ usesL k (e.l.take i) = false) (fun i => e.l.length - i) 0 ⟨Nat.zero_le _, rfl⟩ rfl fun i hi ih => ?_; (repeat first|refine A.s rfl ?_|refine A.r rfl rfl ?_|refine A.w rfl rfl ?_|refine A.p rfl ?_|refine A.b rfl fun bx=>?_|refine A.t rfl fun bl=>?_|refine A.step rfl ?_|refine A.v rfl rfl ?_); refine A.cond rfl (fun hc => ?_) (fun hc => ?_); (simp at hc; refine Exists.elim (at_exN (l := e.l) (i := i) (by omega)) fun x hx => ?_; (have hxm := List.mem_of_getElem? hx; have hxl := htl_le hxm; have hxp := ht_pos x; have ux := uses_p k N x (deep - 1) (by omega) (by omega) (by omega) (fine_mem hfl x hxm); have eNx := inc_eq i (by omega); have ewd : IntKind.i64.wrap (deep - 1) = deep - 1 := wr64 _ (by omega); have etk : usesL k (e.l.take (i + 1)) = usesB k x := (by rw [List.take_add_one, hx, usesL_append, hi.2]; simp [usesL]); rw [encK_eq x] at ux; (repeat first|refine A.s rfl ?_|refine A.r rfl rfl ?_|refine A.w rfl rfl ?_|refine A.p rfl ?_|refine A.b rfl fun bx=>?_|refine A.t rfl fun bl=>?_); refine A.x rfl (by omega) (encKl_at hx) (encK_eq x) rfl ?_; (repeat first|refine A.s rfl ?_|refine A.r rfl rfl ?_|refine A.w rfl rfl ?_|refine A.p rfl ?_|refine A.b rfl fun bx=>?_|refine A.t rfl fun bl=>?_); refine A.valE 32 rfl (x' := AB true) (ab_eq (by simp; omega)) ?_; (repeat first|refine A.s rfl ?_|refine A.r rfl rfl ?_|refine A.w rfl rfl ?_|refine A.p rfl ?_|refine A.b rfl fun bx=>?_|refine A.t rfl fun bl=>?_); refine A.valE 36 rfl (x' := AI (deep - 1)) (ai_eq ewd) ?_; refine A.c rfl ux .refl ?_; refine A.split 37 rfl (fun hu => ?_) (fun hu => ?_); ((repeat first|refine A.s rfl ?_|refine A.r rfl rfl ?_|refine A.w rfl rfl ?_|refine A.p rfl ?_|refine A.b rfl fun bx=>?_|refine A.t rfl fun bl=>?_); refine A.ret1 (Λ' := []) rfl rfl rfl (List.nil_sublist _) ⟨?_, rfl⟩; refine Sb.eq (ab_eq ?_); rw [usesB_eq, usesL_mem hxm hu]; simp); ((repeat first|refine A.s rfl ?_|refine A.r rfl rfl ?_|refine A.w rfl rfl ?_|refine A.p rfl ?_|refine A.b rfl fun bx=>?_|refine A.t rfl fun bl=>?_|refine A.step rfl ?_|refine A.v rfl rfl ?_); refine A.valE 26 rfl (x' := AI ((i + 1 : Nat) : Int)) eNx ?_; refine A.less (Λ' := [.box _ (cellsK e)]) (by repeat (first | exact List.Sublist.refl _ | apply List.Sublist.cons_cons | apply List.Sublist.cons)) ?_; refine A.sub (by repeat (first | exact trivial | refine ⟨⟨_, rfl, .refl⟩, ?_⟩)) (ih (i + 1) ⟨by omega, by rw [etk]; exact hu⟩ (by omega))))); (simp at hc; (repeat first|refine A.s rfl ?_|refine A.r rfl rfl ?_|refine A.w rfl rfl ?_|refine A.p rfl ?_|refine A.b rfl fun bx=>?_|refine A.t rfl fun bl=>?_); refine A.ret1 (Λ' := []) rfl rfl rfl (List.nil_sublist _) ⟨?_, rfl⟩; refine Sb.eq (ab_eq ?_); have hi2 := hi.2; rw [List.take_of_length_le (by omega)] at hi2; rw [usesB_eq, hno, hi2]; rfl))
/-- the value does not depend on a variable that does not occur -/
theorem reads_same {s t : List (List Int)} {k : Int} (hk : ∀ v i, v ≠ k → atM s v i = atM t v i) : ∀ (N : Nat) (e : KE), ht e ≤ N → fine e = true → usesB k e = false → valM s e = valM t e
  | 0, e, hn, _, _ => by rw [ht_eq] at hn; omega
  | N + 1, e, hn, hf, hu => by
    rcases fine_cases hf with ⟨n, rfl⟩ | ⟨v, h1, h2, rfl⟩ | ⟨v, a, h1, h2, h3, rfl⟩ | ⟨o, a, h1, h2, h3, rfl⟩ | ⟨o, a, b, h1, h2, h3, h4, rfl⟩ | ⟨t', a, h1, h2, h3, rfl⟩
    · simp [valM, valMl, combM]
    · simp [usesB, usesL] at hu
      simp [valM, valMl, combM]; exact hk v 0 hu
    · simp [usesB, usesL] at hu
      rw [ht, htl, htl] at hn
      have ih := reads_same hk N a (by omega) h3 hu.2
      simp only [valM, valMl, ih]
      unfold combM
      cases valM t a with
      | none => rfl
      | some x => simp [hk v x hu.1]
    · simp [usesB, usesL] at hu
      rw [ht, htl, htl] at hn
      have ih := reads_same hk N a (by omega) h3 hu
      simp only [valM, valMl, ih]
      unfold combM
      cases valM t a with
      | none => rfl
      | some x => simp
    · simp [usesB, usesL] at hu
      rw [ht, htl, htl, htl] at hn
      have iha := reads_same hk N a (by omega) h3 hu.1
      have ihb := reads_same hk N b (by omega) h4 hu.2
      simp only [valM, valMl, iha, ihb]
      unfold combM
      cases valM t a with
      | none => rfl
      | some x => simp
    · simp [usesB, usesL] at hu
      rw [ht, htl, htl] at hn
      have ih := reads_same hk N a (by omega) h3 hu
      simp only [valM, valMl, ih]
      unfold combM
      cases valM t a with
      | none => rfl
      | some x => simp

theorem reads_law (s : List (List Int)) (e : KE) (v : Int) (l : List Int) (hs : wfS s) (hb : short s) (h4 : ∀ r, r ∈ s → r.length ≤ 35184372088832) (hw : wfK e) (hv : u8 v) (hl : ∀ a, a ∈ l → i32 a) (hll : l.length ≤ 35184372088832) :
    Pure Try.prog gs0 6 [rowsA s, encK e, AU8 v, rowA l] (AB true) := by
  have hsl : ((s.map rowA).length : Int) = s.length := by rw [List.length_map]
  have hll2 : ((l.map AI32).length : Int) = l.length := by rw [List.length_map]
  have g1 := great_p s hb
  have aw := awake_p
  have hvp := rvalid_p e hw
  rw [encK_eq] at hvp ⊢
  cases hg1 : greatB s with
  | true =>
    rw [hg1] at g1
    refine Pure.of (S := tt) (fn := Try.f6) (n := 71) tt_ok Try.func6 rfl rfl rfl rfl fun w0 h0 F hgs => ?_
    (repeat first|refine A.s rfl ?_|refine A.r rfl rfl ?_|refine A.w rfl rfl ?_|refine A.p rfl ?_|refine A.b rfl fun bx=>?_|refine A.t rfl fun bl=>?_); refine A.c rfl (g1) .refl ?_
    (repeat first|refine A.s rfl ?_|refine A.r rfl rfl ?_|refine A.w rfl rfl ?_|refine A.p rfl ?_|refine A.b rfl fun bx=>?_|refine A.t rfl fun bl=>?_); refine A.c rfl aw .refl ?_; (repeat first|refine A.s rfl ?_|refine A.r rfl rfl ?_|refine A.w rfl rfl ?_|refine A.p rfl ?_|refine A.b rfl fun bx=>?_|refine A.t rfl fun bl=>?_); refine A.ret1 (Λ' := []) rfl rfl rfl (List.nil_sublist _) ⟨?_, rfl⟩; exact .refl
  | false =>
  rw [hg1] at g1
  by_cases c1 : 300 < l.length
  · refine Pure.of (S := tt) (fn := Try.f6) (n := 71) tt_ok Try.func6 rfl rfl rfl rfl fun w0 h0 F hgs => ?_
    (repeat first|refine A.s rfl ?_|refine A.r rfl rfl ?_|refine A.w rfl rfl ?_|refine A.p rfl ?_|refine A.b rfl fun bx=>?_|refine A.t rfl fun bl=>?_); refine A.c rfl (g1) .refl ?_
    (repeat first|refine A.s rfl ?_|refine A.r rfl rfl ?_|refine A.w rfl rfl ?_|refine A.p rfl ?_|refine A.b rfl fun bx=>?_|refine A.t rfl fun bl=>?_)
    refine A.valE 22 rfl (x' := AB true) (ab_eq (by simp; omega)) ?_
    (repeat first|refine A.s rfl ?_|refine A.r rfl rfl ?_|refine A.w rfl rfl ?_|refine A.p rfl ?_|refine A.b rfl fun bx=>?_|refine A.t rfl fun bl=>?_); refine A.c rfl aw .refl ?_; (repeat first|refine A.s rfl ?_|refine A.r rfl rfl ?_|refine A.w rfl rfl ?_|refine A.p rfl ?_|refine A.b rfl fun bx=>?_|refine A.t rfl fun bl=>?_); refine A.ret1 (Λ' := []) rfl rfl rfl (List.nil_sublist _) ⟨?_, rfl⟩; exact .refl
  by_cases c2 : valid e
  case neg =>
    refine Pure.of (S := tt) (fn := Try.f6) (n := 71) tt_ok Try.func6 rfl rfl rfl rfl fun w0 h0 F hgs => ?_
    (repeat first|refine A.s rfl ?_|refine A.r rfl rfl ?_|refine A.w rfl rfl ?_|refine A.p rfl ?_|refine A.b rfl fun bx=>?_|refine A.t rfl fun bl=>?_); refine A.c rfl (g1) .refl ?_
    (repeat first|refine A.s rfl ?_|refine A.r rfl rfl ?_|refine A.w rfl rfl ?_|refine A.p rfl ?_|refine A.b rfl fun bx=>?_|refine A.t rfl fun bl=>?_)
    refine A.valE 22 rfl (x' := AB false) (ab_eq (by simp; omega)) ?_
    (repeat first|refine A.s rfl ?_|refine A.r rfl rfl ?_|refine A.w rfl rfl ?_|refine A.p rfl ?_|refine A.b rfl fun bx=>?_|refine A.t rfl fun bl=>?_); refine A.c rfl hvp .refl ?_
    refine A.valE 24 rfl (x' := AB false) (ab_eq (by simp [c2])) ?_
    (repeat first|refine A.s rfl ?_|refine A.r rfl rfl ?_|refine A.w rfl rfl ?_|refine A.p rfl ?_|refine A.b rfl fun bx=>?_|refine A.t rfl fun bl=>?_); refine A.c rfl aw .refl ?_; (repeat first|refine A.s rfl ?_|refine A.r rfl rfl ?_|refine A.w rfl rfl ?_|refine A.p rfl ?_|refine A.b rfl fun bx=>?_|refine A.t rfl fun bl=>?_); refine A.ret1 (Λ' := []) rfl rfl rfl (List.nil_sublist _) ⟨?_, rfl⟩; exact .refl
  by_cases c3 : s.length = 0
  · refine Pure.of (S := tt) (fn := Try.f6) (n := 71) tt_ok Try.func6 rfl rfl rfl rfl fun w0 h0 F hgs => ?_
    (repeat first|refine A.s rfl ?_|refine A.r rfl rfl ?_|refine A.w rfl rfl ?_|refine A.p rfl ?_|refine A.b rfl fun bx=>?_|refine A.t rfl fun bl=>?_); refine A.c rfl (g1) .refl ?_
    (repeat first|refine A.s rfl ?_|refine A.r rfl rfl ?_|refine A.w rfl rfl ?_|refine A.p rfl ?_|refine A.b rfl fun bx=>?_|refine A.t rfl fun bl=>?_)
    refine A.valE 22 rfl (x' := AB false) (ab_eq (by simp; omega)) ?_
    (repeat first|refine A.s rfl ?_|refine A.r rfl rfl ?_|refine A.w rfl rfl ?_|refine A.p rfl ?_|refine A.b rfl fun bx=>?_|refine A.t rfl fun bl=>?_); refine A.c rfl hvp .refl ?_
    refine A.valE 24 rfl (x' := AB true) (ab_eq (by simp [c2])) ?_
    (repeat first|refine A.s rfl ?_|refine A.r rfl rfl ?_|refine A.w rfl rfl ?_|refine A.p rfl ?_|refine A.b rfl fun bx=>?_|refine A.t rfl fun bl=>?_)
    refine A.valE 31 rfl (x' := AB true) (ab_eq (by rw [hsl, c3]; rfl)) ?_
    (repeat first|refine A.s rfl ?_|refine A.r rfl rfl ?_|refine A.w rfl rfl ?_|refine A.p rfl ?_|refine A.b rfl fun bx=>?_|refine A.t rfl fun bl=>?_); refine A.c rfl aw .refl ?_; (repeat first|refine A.s rfl ?_|refine A.r rfl rfl ?_|refine A.w rfl rfl ?_|refine A.p rfl ?_|refine A.b rfl fun bx=>?_|refine A.t rfl fun bl=>?_); refine A.ret1 (Λ' := []) rfl rfl rfl (List.nil_sublist _) ⟨?_, rfl⟩; exact .refl
  have hs600 : s.length ≤ 600 := by have h1 := of_decide_eq_false hg1; have h2 : s.length ≤ greatN s 300 := Nat.le_add_right _ _; omega
  have hk : v.toNat % s.length < s.length := Nat.mod_lt _ (by omega)
  have ek : v.tmod s.length = ((v.toNat % s.length : Nat) : Int) := tmod_nat _ hv.1
  generalize v.toNat % s.length = k at hk ek
  have hrw : IntKind.i64.wrap v = v := wr64 _ (by unfold u8 at hv; omega)
  have eK : arV BinOp.rem IntKind.i64 (IntKind.i64.wrap v) ((s.map rowA).length : Nat) = (k : Int) := by
    rw [hsl, hrw]; exact ek
  have hu := uses_p k 32 e 40 (by have := c2.2.2; omega) (by have := c2.2.2; omega) (by omega) c2.1
  rw [encK_eq] at hu
  have hput := rput_p s (-1) 0 0 (by omega) h4
  rw [putM_none] at hput
  have hv1 := Value_p s hs e hw
  have hst : wfS (s.set k l) := fun q hq x hx => (List.mem_or_eq_of_mem_set hq).elim (fun h => hs q h x hx) (fun h => hl x (by rw [← h]; exact hx))
  have hv2 := Value_p (s.set k l) hst e hw
  rw [encK_eq] at hv1 hv2
  cases hub : usesB k e with
  | true =>
    rw [hub] at hu
    refine Pure.of (S := tt) (fn := Try.f6) (n := 71) tt_ok Try.func6 rfl rfl rfl rfl fun w0 h0 F hgs => ?_
    (repeat first|refine A.s rfl ?_|refine A.r rfl rfl ?_|refine A.w rfl rfl ?_|refine A.p rfl ?_|refine A.b rfl fun bx=>?_|refine A.t rfl fun bl=>?_); refine A.c rfl (g1) .refl ?_
    (repeat first|refine A.s rfl ?_|refine A.r rfl rfl ?_|refine A.w rfl rfl ?_|refine A.p rfl ?_|refine A.b rfl fun bx=>?_|refine A.t rfl fun bl=>?_)
    refine A.valE 22 rfl (x' := AB false) (ab_eq (by simp; omega)) ?_
    (repeat first|refine A.s rfl ?_|refine A.r rfl rfl ?_|refine A.w rfl rfl ?_|refine A.p rfl ?_|refine A.b rfl fun bx=>?_|refine A.t rfl fun bl=>?_); refine A.c rfl hvp .refl ?_
    refine A.valE 24 rfl (x' := AB true) (ab_eq (by simp [c2])) ?_
    (repeat first|refine A.s rfl ?_|refine A.r rfl rfl ?_|refine A.w rfl rfl ?_|refine A.p rfl ?_|refine A.b rfl fun bx=>?_|refine A.t rfl fun bl=>?_)
    refine A.valE 31 rfl (x' := AB false) (ab_eq (by rw [hsl]; exact beq_eq_false_iff_ne.2 (by omega))) ?_
    (repeat first|refine A.s rfl ?_|refine A.r rfl rfl ?_|refine A.w rfl rfl ?_|refine A.p rfl ?_|refine A.b rfl fun bx=>?_|refine A.t rfl fun bl=>?_)
    refine A.divrem rfl rfl rfl rfl rfl rfl rfl (by rw [hsl]; omega) ?_
    refine A.valE 37 rfl (x' := AI (k : Nat)) (ai_eq eK) ?_
    (repeat first|refine A.s rfl ?_|refine A.r rfl rfl ?_|refine A.w rfl rfl ?_|refine A.p rfl ?_|refine A.b rfl fun bx=>?_|refine A.t rfl fun bl=>?_); refine A.c rfl hu .refl ?_
    (repeat first|refine A.s rfl ?_|refine A.r rfl rfl ?_|refine A.w rfl rfl ?_|refine A.p rfl ?_|refine A.b rfl fun bx=>?_|refine A.t rfl fun bl=>?_); refine A.c rfl aw .refl ?_; (repeat first|refine A.s rfl ?_|refine A.r rfl rfl ?_|refine A.w rfl rfl ?_|refine A.p rfl ?_|refine A.b rfl fun bx=>?_|refine A.t rfl fun bl=>?_); refine A.ret1 (Λ' := []) rfl rfl rfl (List.nil_sublist _) ⟨?_, rfl⟩; exact .refl
  | false =>
    rw [hub] at hu
    have hsame : valueM (s.set k l) e = valueM s e := by
      rw [valueM, valueM, if_pos c2, if_pos c2]
      refine (reads_same (k := k) (fun v' i hne => ?_) _ e (Nat.le_refl _) c2.1 hub).symm
      unfold atM
      by_cases h : v' < 0 ∨ i < 0
      · rw [if_pos h, if_pos h]
      · rw [if_neg h, if_neg h, List.getElem?_set_ne (by omega)]
    rw [hsame] at hv2
    refine Pure.of (S := tt) (fn := Try.f6) (n := 71) tt_ok Try.func6 rfl rfl rfl rfl fun w0 h0 F hgs => ?_
    (repeat first|refine A.s rfl ?_|refine A.r rfl rfl ?_|refine A.w rfl rfl ?_|refine A.p rfl ?_|refine A.b rfl fun bx=>?_|refine A.t rfl fun bl=>?_); refine A.c rfl (g1) .refl ?_
    (repeat first|refine A.s rfl ?_|refine A.r rfl rfl ?_|refine A.w rfl rfl ?_|refine A.p rfl ?_|refine A.b rfl fun bx=>?_|refine A.t rfl fun bl=>?_)
    refine A.valE 22 rfl (x' := AB false) (ab_eq (by simp; omega)) ?_
    (repeat first|refine A.s rfl ?_|refine A.r rfl rfl ?_|refine A.w rfl rfl ?_|refine A.p rfl ?_|refine A.b rfl fun bx=>?_|refine A.t rfl fun bl=>?_); refine A.c rfl hvp .refl ?_
    refine A.valE 24 rfl (x' := AB true) (ab_eq (by simp [c2])) ?_
    (repeat first|refine A.s rfl ?_|refine A.r rfl rfl ?_|refine A.w rfl rfl ?_|refine A.p rfl ?_|refine A.b rfl fun bx=>?_|refine A.t rfl fun bl=>?_)
    refine A.valE 31 rfl (x' := AB false) (ab_eq (by rw [hsl]; exact beq_eq_false_iff_ne.2 (by omega))) ?_
    (repeat first|refine A.s rfl ?_|refine A.r rfl rfl ?_|refine A.w rfl rfl ?_|refine A.p rfl ?_|refine A.b rfl fun bx=>?_|refine A.t rfl fun bl=>?_)
    refine A.divrem rfl rfl rfl rfl rfl rfl rfl (by rw [hsl]; omega) ?_
    refine A.valE 37 rfl (x' := AI (k : Nat)) (ai_eq eK) ?_
    (repeat first|refine A.s rfl ?_|refine A.r rfl rfl ?_|refine A.w rfl rfl ?_|refine A.p rfl ?_|refine A.b rfl fun bx=>?_|refine A.t rfl fun bl=>?_); refine A.c rfl hu .refl ?_
    (repeat first|refine A.s rfl ?_|refine A.r rfl rfl ?_|refine A.w rfl rfl ?_|refine A.p rfl ?_|refine A.b rfl fun bx=>?_|refine A.t rfl fun bl=>?_)
    refine A.e rfl hput .refl (.refl _) fun p hp => ?_
    have hpl : p.2.length = s.length := by rw [← hp, List.length_map]
    have hm := rowsH_len p.2
    (repeat first|refine A.s rfl ?_|refine A.r rfl rfl ?_|refine A.w rfl rfl ?_|refine A.p rfl ?_|refine A.b rfl fun bx=>?_|refine A.t rfl fun bl=>?_)
    refine A.indexRow rfl rfl rfl rfl rfl rfl rfl rfl (by omega) (by rw [hm]; omega) rfl ?_
    refine A.storeRow rfl rfl rfl rfl rfl rfl rfl rfl rfl (by rw [hm]; show k < _; omega) (xs' := (msL 1 (rowsH p.2)).set k (rowA l)) rfl ?_
    refine A.freezeRowsR (l' := (slL 1 (rowsH p.2)).set k (rowA l)) (.refl _) (CvL.set Cv1.refl k (CvL.ms fun x hx => hx)) ?_
    refine A.freezeRow 10 rfl ?_
    refine A.valE 10 rfl (x' := rowsA (s.set k l)) (by rw [sl_rows, hp]; show _ = AV.sl 1 ((s.set k l).map rowA) none; rw [List.map_set]) ?_
    (repeat first|refine A.s rfl ?_|refine A.r rfl rfl ?_|refine A.w rfl rfl ?_|refine A.p rfl ?_|refine A.b rfl fun bx=>?_|refine A.t rfl fun bl=>?_); refine A.c rfl hv1 .refl ?_
    (repeat first|refine A.s rfl ?_|refine A.r rfl rfl ?_|refine A.w rfl rfl ?_|refine A.p rfl ?_|refine A.b rfl fun bx=>?_|refine A.t rfl fun bl=>?_); refine A.c rfl hv2 .refl ?_
    (repeat first|refine A.s rfl ?_|refine A.r rfl rfl ?_|refine A.w rfl rfl ?_|refine A.p rfl ?_|refine A.b rfl fun bx=>?_|refine A.t rfl fun bl=>?_)
    refine A.valE 63 rfl (x' := AB true) (ab_eq (by simp)) ?_
    (repeat first|refine A.s rfl ?_|refine A.r rfl rfl ?_|refine A.w rfl rfl ?_|refine A.p rfl ?_|refine A.b rfl fun bx=>?_|refine A.t rfl fun bl=>?_)
    refine A.valE 68 rfl (x' := AB true) (ab_eq (by simp)) ?_
    (repeat first|refine A.s rfl ?_|refine A.r rfl rfl ?_|refine A.w rfl rfl ?_|refine A.p rfl ?_|refine A.b rfl fun bx=>?_|refine A.t rfl fun bl=>?_); refine A.c rfl aw .refl ?_; (repeat first|refine A.s rfl ?_|refine A.r rfl rfl ?_|refine A.w rfl rfl ?_|refine A.p rfl ?_|refine A.b rfl fun bx=>?_|refine A.t rfl fun bl=>?_); refine A.ret1 (Λ' := []) rfl rfl rfl (List.nil_sublist _) ⟨?_, rfl⟩; exact .refl
end Go.Proofs.Ytbbainjecjdkmaa
