/-
  Chapter 14: names in an expression; FoldKeeps.
-/
import Derived.Test.YtlnbmocgnkjlfaaQ14p
import Derived.Test.YtlnbmocgnkjlfaaQ14q

namespace Go.Proofs.Ytlnbmocgnkjlfaa
open Go Go.Tp
set_option linter.unusedVariables false
set_option linter.unusedSimpArgs false
set_option maxRecDepth 100000
set_option maxHeartbeats 4000000

/-! ### whether an environment declares a name -/
def declB (env : List SP) (s : List UInt8) : Bool := env.any fun x => x.names.any (fun y => s == y)
theorem declares_p (env : List SP) (s : List UInt8) (hb : env.length ≤ 281474976710656) (hn : ∀ x, x ∈ env → x.names.length ≤ 281474976710656) : Pure Try.prog gs0 26 [specsA env, AS s] (AB (declB env s)) := by
  have hle : ((env.map encS).length : Int) = env.length := by rw [List.length_map]
  refine Pure.of (S := tt) (fn := Try.f26) (n := 27) tt_ok Try.func26 rfl rfl rfl rfl fun w0 h0 F hgs => ?_
  (repeat first|refine A.s rfl ?_|refine A.r rfl rfl ?_|refine A.w rfl rfl ?_|refine A.p rfl ?_|refine A.b rfl fun bx=>?_|refine A.t rfl fun bl=>?_)
  refine A.valE 10 rfl (x' := AI (env.length : Nat)) (ai_eq hle) ?_
  refine A.keep [0, 1, 4, 9, 10, 11] rfl ?_
  refine A.loopP (ι := Nat) (fun i => (⟨[(0, specsA env), (1, AS s), (4, AB false), (9, specsA env), (10, AI (env.length : Nat)), (11, AI (i : Int))], []⟩, []))
    (fun i => i ≤ env.length ∧ declB env s = declB (env.drop i) s) (fun i => env.length - i) 0 ⟨Nat.zero_le _, rfl⟩ rfl fun i hi ih => ?_
  (repeat first|refine A.s rfl ?_|refine A.r rfl rfl ?_|refine A.w rfl rfl ?_|refine A.p rfl ?_|refine A.b rfl fun bx=>?_|refine A.t rfl fun bl=>?_)
  refine A.cond rfl (fun hc => ?_) (fun hc => ?_)
  · simp at hc
    refine Exists.elim (at_exN (l := env) (i := i) hc) fun x hx => ?_
    have hnx := hn x (List.mem_of_getElem? hx)
    have h1 := hi.2
    rw [drop_at hx, declB, declB, List.any_cons] at h1
    have hlx : ((x.names.map AS).length : Int) = x.names.length := by rw [List.length_map]
    (repeat first|refine A.s rfl ?_|refine A.r rfl rfl ?_|refine A.w rfl rfl ?_|refine A.p rfl ?_|refine A.b rfl fun bx=>?_|refine A.t rfl fun bl=>?_)
    refine A.x rfl (by omega) (map_at hx) rfl rfl ?_
    (repeat first|refine A.s rfl ?_|refine A.r rfl rfl ?_|refine A.w rfl rfl ?_|refine A.p rfl ?_|refine A.b rfl fun bx=>?_|refine A.t rfl fun bl=>?_)
    refine A.valE 17 rfl (x' := AI (x.names.length : Nat)) (ai_eq hlx) ?_
    refine A.keep [0, 1, 4, 9, 10, 11, 16, 17, 18] rfl ?_
    refine A.less (Λ' := []) (List.nil_sublist _) ?_
    refine A.loopP (ι := Nat) (fun j => (⟨[(0, specsA env), (1, AS s), (4, AB false), (9, specsA env), (10, AI (env.length : Nat)), (11, AI (i : Int)), (16, namesA x.names), (17, AI (x.names.length : Nat)), (18, AI (j : Int))], []⟩, []))
      (fun j => j ≤ x.names.length ∧ x.names.any (fun y => s == y) = (x.names.drop j).any (fun y => s == y)) (fun j => x.names.length - j) 0 ⟨Nat.zero_le _, rfl⟩ rfl fun j hj jh => ?_
    (repeat first|refine A.s rfl ?_|refine A.r rfl rfl ?_|refine A.w rfl rfl ?_|refine A.p rfl ?_|refine A.b rfl fun bx=>?_|refine A.t rfl fun bl=>?_)
    refine A.cond rfl (fun hc => ?_) (fun hc => ?_)
    · simp at hc
      refine Exists.elim (at_exN (l := x.names) (i := j) hc) fun y hy => ?_
      have h2 := hj.2
      rw [drop_at hy, List.any_cons] at h2
      (repeat first|refine A.s rfl ?_|refine A.r rfl rfl ?_|refine A.w rfl rfl ?_|refine A.p rfl ?_|refine A.b rfl fun bx=>?_|refine A.t rfl fun bl=>?_)
      refine A.x rfl (by omega) (map_at hy) rfl rfl ?_
      (repeat first|refine A.s rfl ?_|refine A.r rfl rfl ?_|refine A.w rfl rfl ?_|refine A.p rfl ?_|refine A.b rfl fun bx=>?_|refine A.t rfl fun bl=>?_)
      ((fail_if_success (refine A.lit? rfl ?_)); refine A.gS rfl (fun hc => ?_) (fun hc => ?_))
      · have h3 : (s == y) = true := by rw [bs_eq] at hc; rw [BEq.comm]; exact hc
        rw [h3, Bool.true_or] at h2
        rw [h2, Bool.true_or] at h1
        (repeat first|refine A.s rfl ?_|refine A.r rfl rfl ?_|refine A.w rfl rfl ?_|refine A.p rfl ?_|refine A.b rfl fun bx=>?_|refine A.t rfl fun bl=>?_); refine A.ret1 (Λ' := []) rfl rfl rfl (List.nil_sublist _) ⟨?_, rfl⟩; exact Sb.eq (ab_eq h1.symm)
      · have h3 : (s == y) = false := by rw [bs_eq] at hc; rw [BEq.comm]; exact hc
        rw [h3, Bool.false_or] at h2
        (repeat first|refine A.s rfl ?_|refine A.r rfl rfl ?_|refine A.w rfl rfl ?_|refine A.p rfl ?_|refine A.b rfl fun bx=>?_|refine A.t rfl fun bl=>?_)
        refine A.valE 18 rfl (x' := AI ((j + 1 : Nat) : Int)) (inc_eq j (by omega)) ?_
        refine A.sub (by repeat (first | exact trivial | refine ⟨⟨_, rfl, .refl⟩, ?_⟩)) (jh (j + 1) ⟨by omega, h2⟩ (by omega))
    · simp at hc
      have : j = x.names.length := by omega
      subst this
      have h2 := hj.2
      rw [List.drop_length, List.any_nil] at h2
      rw [h2, Bool.false_or] at h1
      (repeat first|refine A.s rfl ?_|refine A.r rfl rfl ?_|refine A.w rfl rfl ?_|refine A.p rfl ?_|refine A.b rfl fun bx=>?_|refine A.t rfl fun bl=>?_)
      refine A.valE 11 rfl (x' := AI ((i + 1 : Nat) : Int)) (inc_eq i (by omega)) ?_
      refine A.sub (by repeat (first | exact trivial | refine ⟨⟨_, rfl, .refl⟩, ?_⟩)) (ih (i + 1) ⟨by omega, h1⟩ (by omega))
  · simp at hc
    have : i = env.length := by omega
    subst this
    have h1 := hi.2
    rw [List.drop_length] at h1
    (repeat first|refine A.s rfl ?_|refine A.r rfl rfl ?_|refine A.w rfl rfl ?_|refine A.p rfl ?_|refine A.b rfl fun bx=>?_|refine A.t rfl fun bl=>?_); refine A.ret1 (Λ' := []) rfl rfl rfl (List.nil_sublist _) ⟨?_, rfl⟩; exact Sb.eq (ab_eq h1.symm)

/-! ### the names in an expression -/
mutual
def namesX : XE → List (List UInt8)
  | ⟨k, o, t, n, s, l⟩ => (if k = 4 ∨ k = 5 ∨ k = 9 then [s] else []) ++ namesXl l
def namesXl : List XE → List (List UInt8)
  | [] => []
  | e :: r => namesX e ++ namesXl r
end
theorem namesX_eq (e : XE) : namesX e = (if e.kind = 4 ∨ e.kind = 5 ∨ e.kind = 9 then [e.s] else []) ++ namesXl e.l := by obtain ⟨k, o, t, n, s, l⟩ := e; rw [namesX]
theorem namesXl_app : ∀ a b : List XE, namesXl (a ++ b) = namesXl a ++ namesXl b
  | [], b => by rw [List.nil_append, namesXl, List.nil_append]
  | x :: a, b => by rw [List.cons_append, namesXl, namesXl, namesXl_app a b, List.append_assoc]
theorem namesXl_at {l : List XE} {i : Nat} {x : XE} (h : l[i]? = some x) : namesXl (l.take (i + 1)) = namesXl (l.take i) ++ namesX x := by
  rw [List.take_add_one, h, namesXl_app]
  show _ ++ namesXl [x] = _
  rw [namesXl, namesXl, List.append_nil]
mutual
theorem namesX_len : ∀ e : XE, (namesX e).length ≤ szX e
  | ⟨k, o, t, n, s, l⟩ => by
    have := namesXl_len l
    rw [namesX, szX, List.length_append]
    split <;> simp <;> omega
theorem namesXl_len : ∀ l : List XE, (namesXl l).length ≤ szXl l
  | [] => by rw [namesXl, szXl]; exact Nat.le_refl _
  | x :: l => by
    have h1 := namesX_len x
    have h2 := namesXl_len l
    rw [namesXl, szXl, List.length_append]; omega
end
theorem szXl_take (l : List XE) (i : Nat) : szXl (l.take i) ≤ szXl l := by
  have := szXl_append (l.take i) (l.drop i)
  rw [List.take_append_drop] at this; omega
theorem names10_p : ∀ (N : Nat) (e : XE), htX e ≤ N → wfX e → szX e ≤ 1000000 → Pure Try.prog gs0 25 [encX e] (.sl 1 ((namesX e).map AS) none)
  | 0, e, hn, _, _ => by have := htX_pos e; omega
  | N + 1, e, hn, hw, hz => by
    have hlen : ((encXl e.l).length : Int) = e.l.length := by rw [encXl_len]
    have hse := szX_eq e
    have hll : e.l.length ≤ 281474976710656 := by obtain ⟨k, o, t, n, s, l⟩ := e; rw [wfX] at hw; exact hw.1.2.2.2.2.2
    have ih := fun x (hx : x ∈ e.l) => names10_p N x (by have := htXl_le hx; have := htX_eq e; omega) (wfXl_mem (wfX_l hw) x hx) (by have := szXl_le hx; omega)
    by_cases hk : e.kind = 4 ∨ e.kind = 5 ∨ e.kind = 9
    · generalize hhd : [e.s] = hd
      have hdl : hd.length = 1 := by rw [← hhd]; rfl
      have hnx : namesX e = hd ++ namesXl e.l := by rw [namesX_eq, if_pos hk, hhd]
      rw [hnx, encX_eq e]
      rcases hk with hk | hk | hk
      · refine Pure.of (S := tt) (fn := Try.f25) (n := 30) tt_ok Try.func25 rfl rfl rfl rfl fun w0 h0 F hgs => ?_
        (repeat first|refine A.s rfl ?_|refine A.r rfl rfl ?_|refine A.w rfl rfl ?_|refine A.p rfl ?_|refine A.b rfl fun bx=>?_|refine A.t rfl fun bl=>?_)
        refine A.gT rfl (by simp [hk]) ?_
        (repeat first|refine A.s rfl ?_|refine A.r rfl rfl ?_|refine A.w rfl rfl ?_|refine A.p rfl ?_|refine A.b rfl fun bx=>?_|refine A.t rfl fun bl=>?_)
        refine A.append0 rfl rfl rfl rfl rfl rfl rfl rfl rfl rfl rfl rfl rfl rfl (by show (0 + 1) * 1 ≤ _; decide) fun z0 => ?_
        refine A.valE 16 rfl (x' := .sl 1 ((hd ++ namesXl (e.l.take 0)).map AS) (some z0)) (by rw [List.take_zero, namesXl, List.append_nil, ← hhd]; rfl) ?_
        (repeat first|refine A.s rfl ?_|refine A.r rfl rfl ?_|refine A.w rfl rfl ?_|refine A.p rfl ?_|refine A.b rfl fun bx=>?_|refine A.t rfl fun bl=>?_)
        refine A.valE 19 rfl (x' := AI (e.l.length : Nat)) (ai_eq hlen) ?_
        refine A.keep [1, 3, 18, 19, 20] rfl ?_
        refine A.less (Λ' := [.tail 1 _, .box _ (cellsX e)]) (by repeat (first | exact List.Sublist.refl _ | apply List.Sublist.cons_cons | apply List.Sublist.cons)) ?_
        refine A.loopP (ι := Nat × Value) (fun p => (⟨[(1, .v (.pointer (some ⟨_, 0, none⟩))), (3, .sl 1 ((hd ++ namesXl (e.l.take p.1)).map AS) (some p.2)), (18, .sl 6 (encXl e.l) none), (19, AI (e.l.length : Nat)), (20, AI (p.1 : Nat))], []⟩, [.tail 1 p.2, .box _ (cellsX e)]))
          (fun p => p.1 ≤ e.l.length) (fun p => e.l.length - p.1) (0, _) (Nat.zero_le _) rfl fun p hi ih2 => ?_
        obtain ⟨i, z⟩ := p
        (repeat first|refine A.s rfl ?_|refine A.r rfl rfl ?_|refine A.w rfl rfl ?_|refine A.p rfl ?_|refine A.b rfl fun bx=>?_|refine A.t rfl fun bl=>?_)
        refine A.cond rfl (fun hc => ?_) (fun hc => ?_)
        · simp at hc
          refine Exists.elim (at_exN (l := e.l) (i := i) (by omega)) fun x hx => ?_
          have hxm := List.mem_of_getElem? hx
          have ihx := ih x hxm
          have h1 := namesXl_len (e.l.take i)
          have h2 := szXl_take e.l i
          have h3 := namesX_len x
          have h4 := szXl_le hxm
          (repeat first|refine A.s rfl ?_|refine A.r rfl rfl ?_|refine A.w rfl rfl ?_|refine A.p rfl ?_|refine A.b rfl fun bx=>?_|refine A.t rfl fun bl=>?_)
          refine A.x rfl (by show (0 : Int) ≤ (i : Nat); omega) (encXl_at hx) (encX_eq x) rfl ?_
          rw [encX_eq x] at ihx
          (repeat first|refine A.s rfl ?_|refine A.r rfl rfl ?_|refine A.w rfl rfl ?_|refine A.p rfl ?_|refine A.b rfl fun bx=>?_|refine A.t rfl fun bl=>?_)
          refine A.c rfl ihx .refl ?_
          refine A.entsEq (Λ' := [.box _ _, .tail ty9.size z, .box _ _]) rfl ?_
          refine A.append rfl rfl rfl rfl rfl rfl rfl rfl rfl rfl rfl rfl rfl rfl (by show ((List.map AS (hd ++ namesXl (e.l.take i))).length + (List.map AS (namesX x)).length) * 1 ≤ _; rw [List.length_map, List.length_map, List.length_append]; omega) fun z' => ?_
          refine A.valE 27 rfl (x' := .sl 1 ((hd ++ namesXl (e.l.take (i + 1))).map AS) (some z')) (by rw [namesXl_at hx, ← List.append_assoc, List.map_append (l₁ := hd ++ namesXl (e.l.take i))]; rfl) ?_
          (repeat first|refine A.s rfl ?_|refine A.r rfl rfl ?_|refine A.w rfl rfl ?_|refine A.p rfl ?_|refine A.b rfl fun bx=>?_|refine A.t rfl fun bl=>?_)
          refine A.valE 20 rfl (x' := AI ((i + 1 : Nat) : Int)) (inc_eq i (by omega)) ?_
          refine A.less (Λ' := [.tail 1 _, .box _ (cellsX e)]) (by repeat (first | exact List.Sublist.refl _ | apply List.Sublist.cons_cons | apply List.Sublist.cons)) ?_
          refine A.sub (by repeat (first | exact trivial | refine ⟨⟨_, rfl, .refl⟩, ?_⟩)) (ih2 (i + 1, z') (by show i + 1 ≤ _; omega) (by show _ - (i + 1) < _ - i; omega))
        · simp at hc
          have hi' : i = e.l.length := by show i = _; have : i ≤ e.l.length := hi; omega
          subst hi'
          (repeat first|refine A.s rfl ?_|refine A.r rfl rfl ?_|refine A.w rfl rfl ?_|refine A.p rfl ?_|refine A.b rfl fun bx=>?_|refine A.t rfl fun bl=>?_); refine A.ret1 (Λ' := []) rfl rfl rfl (List.nil_sublist _) ⟨?_, rfl⟩
          refine Sb.own ?_
          rw [List.take_length]
          exact .refl
      · refine Pure.of (S := tt) (fn := Try.f25) (n := 30) tt_ok Try.func25 rfl rfl rfl rfl fun w0 h0 F hgs => ?_
        (repeat first|refine A.s rfl ?_|refine A.r rfl rfl ?_|refine A.w rfl rfl ?_|refine A.p rfl ?_|refine A.b rfl fun bx=>?_|refine A.t rfl fun bl=>?_)
        refine A.gF rfl (by simp [hk]) ?_
        (repeat first|refine A.s rfl ?_|refine A.r rfl rfl ?_|refine A.w rfl rfl ?_|refine A.p rfl ?_|refine A.b rfl fun bx=>?_|refine A.t rfl fun bl=>?_)
        refine A.gT rfl (by simp [hk]) ?_
        (repeat first|refine A.s rfl ?_|refine A.r rfl rfl ?_|refine A.w rfl rfl ?_|refine A.p rfl ?_|refine A.b rfl fun bx=>?_|refine A.t rfl fun bl=>?_)
        refine A.append0 rfl rfl rfl rfl rfl rfl rfl rfl rfl rfl rfl rfl rfl rfl (by show (0 + 1) * 1 ≤ _; decide) fun z0 => ?_
        refine A.valE 16 rfl (x' := .sl 1 ((hd ++ namesXl (e.l.take 0)).map AS) (some z0)) (by rw [List.take_zero, namesXl, List.append_nil, ← hhd]; rfl) ?_
        (repeat first|refine A.s rfl ?_|refine A.r rfl rfl ?_|refine A.w rfl rfl ?_|refine A.p rfl ?_|refine A.b rfl fun bx=>?_|refine A.t rfl fun bl=>?_)
        refine A.valE 19 rfl (x' := AI (e.l.length : Nat)) (ai_eq hlen) ?_
        refine A.keep [1, 3, 18, 19, 20] rfl ?_
        refine A.less (Λ' := [.tail 1 _, .box _ (cellsX e)]) (by repeat (first | exact List.Sublist.refl _ | apply List.Sublist.cons_cons | apply List.Sublist.cons)) ?_
        refine A.loopP (ι := Nat × Value) (fun p => (⟨[(1, .v (.pointer (some ⟨_, 0, none⟩))), (3, .sl 1 ((hd ++ namesXl (e.l.take p.1)).map AS) (some p.2)), (18, .sl 6 (encXl e.l) none), (19, AI (e.l.length : Nat)), (20, AI (p.1 : Nat))], []⟩, [.tail 1 p.2, .box _ (cellsX e)]))
          (fun p => p.1 ≤ e.l.length) (fun p => e.l.length - p.1) (0, _) (Nat.zero_le _) rfl fun p hi ih2 => ?_
        obtain ⟨i, z⟩ := p
        (repeat first|refine A.s rfl ?_|refine A.r rfl rfl ?_|refine A.w rfl rfl ?_|refine A.p rfl ?_|refine A.b rfl fun bx=>?_|refine A.t rfl fun bl=>?_)
        refine A.cond rfl (fun hc => ?_) (fun hc => ?_)
        · simp at hc
          refine Exists.elim (at_exN (l := e.l) (i := i) (by omega)) fun x hx => ?_
          have hxm := List.mem_of_getElem? hx
          have ihx := ih x hxm
          have h1 := namesXl_len (e.l.take i)
          have h2 := szXl_take e.l i
          have h3 := namesX_len x
          have h4 := szXl_le hxm
          (repeat first|refine A.s rfl ?_|refine A.r rfl rfl ?_|refine A.w rfl rfl ?_|refine A.p rfl ?_|refine A.b rfl fun bx=>?_|refine A.t rfl fun bl=>?_)
          refine A.x rfl (by show (0 : Int) ≤ (i : Nat); omega) (encXl_at hx) (encX_eq x) rfl ?_
          rw [encX_eq x] at ihx
          (repeat first|refine A.s rfl ?_|refine A.r rfl rfl ?_|refine A.w rfl rfl ?_|refine A.p rfl ?_|refine A.b rfl fun bx=>?_|refine A.t rfl fun bl=>?_)
          refine A.c rfl ihx .refl ?_
          refine A.entsEq (Λ' := [.box _ _, .tail ty9.size z, .box _ _]) rfl ?_
          refine A.append rfl rfl rfl rfl rfl rfl rfl rfl rfl rfl rfl rfl rfl rfl (by show ((List.map AS (hd ++ namesXl (e.l.take i))).length + (List.map AS (namesX x)).length) * 1 ≤ _; rw [List.length_map, List.length_map, List.length_append]; omega) fun z' => ?_
          refine A.valE 27 rfl (x' := .sl 1 ((hd ++ namesXl (e.l.take (i + 1))).map AS) (some z')) (by rw [namesXl_at hx, ← List.append_assoc, List.map_append (l₁ := hd ++ namesXl (e.l.take i))]; rfl) ?_
          (repeat first|refine A.s rfl ?_|refine A.r rfl rfl ?_|refine A.w rfl rfl ?_|refine A.p rfl ?_|refine A.b rfl fun bx=>?_|refine A.t rfl fun bl=>?_)
          refine A.valE 20 rfl (x' := AI ((i + 1 : Nat) : Int)) (inc_eq i (by omega)) ?_
          refine A.less (Λ' := [.tail 1 _, .box _ (cellsX e)]) (by repeat (first | exact List.Sublist.refl _ | apply List.Sublist.cons_cons | apply List.Sublist.cons)) ?_
          refine A.sub (by repeat (first | exact trivial | refine ⟨⟨_, rfl, .refl⟩, ?_⟩)) (ih2 (i + 1, z') (by show i + 1 ≤ _; omega) (by show _ - (i + 1) < _ - i; omega))
        · simp at hc
          have hi' : i = e.l.length := by show i = _; have : i ≤ e.l.length := hi; omega
          subst hi'
          (repeat first|refine A.s rfl ?_|refine A.r rfl rfl ?_|refine A.w rfl rfl ?_|refine A.p rfl ?_|refine A.b rfl fun bx=>?_|refine A.t rfl fun bl=>?_); refine A.ret1 (Λ' := []) rfl rfl rfl (List.nil_sublist _) ⟨?_, rfl⟩
          refine Sb.own ?_
          rw [List.take_length]
          exact .refl
      · refine Pure.of (S := tt) (fn := Try.f25) (n := 30) tt_ok Try.func25 rfl rfl rfl rfl fun w0 h0 F hgs => ?_
        (repeat first|refine A.s rfl ?_|refine A.r rfl rfl ?_|refine A.w rfl rfl ?_|refine A.p rfl ?_|refine A.b rfl fun bx=>?_|refine A.t rfl fun bl=>?_)
        refine A.gF rfl (by simp [hk]) ?_
        (repeat first|refine A.s rfl ?_|refine A.r rfl rfl ?_|refine A.w rfl rfl ?_|refine A.p rfl ?_|refine A.b rfl fun bx=>?_|refine A.t rfl fun bl=>?_)
        refine A.gF rfl (by simp [hk]) ?_
        (repeat first|refine A.s rfl ?_|refine A.r rfl rfl ?_|refine A.w rfl rfl ?_|refine A.p rfl ?_|refine A.b rfl fun bx=>?_|refine A.t rfl fun bl=>?_)
        refine A.gT rfl (by simp [hk]) ?_
        (repeat first|refine A.s rfl ?_|refine A.r rfl rfl ?_|refine A.w rfl rfl ?_|refine A.p rfl ?_|refine A.b rfl fun bx=>?_|refine A.t rfl fun bl=>?_)
        refine A.append0 rfl rfl rfl rfl rfl rfl rfl rfl rfl rfl rfl rfl rfl rfl (by show (0 + 1) * 1 ≤ _; decide) fun z0 => ?_
        refine A.valE 16 rfl (x' := .sl 1 ((hd ++ namesXl (e.l.take 0)).map AS) (some z0)) (by rw [List.take_zero, namesXl, List.append_nil, ← hhd]; rfl) ?_
        (repeat first|refine A.s rfl ?_|refine A.r rfl rfl ?_|refine A.w rfl rfl ?_|refine A.p rfl ?_|refine A.b rfl fun bx=>?_|refine A.t rfl fun bl=>?_)
        refine A.valE 19 rfl (x' := AI (e.l.length : Nat)) (ai_eq hlen) ?_
        refine A.keep [1, 3, 18, 19, 20] rfl ?_
        refine A.less (Λ' := [.tail 1 _, .box _ (cellsX e)]) (by repeat (first | exact List.Sublist.refl _ | apply List.Sublist.cons_cons | apply List.Sublist.cons)) ?_
        refine A.loopP (ι := Nat × Value) (fun p => (⟨[(1, .v (.pointer (some ⟨_, 0, none⟩))), (3, .sl 1 ((hd ++ namesXl (e.l.take p.1)).map AS) (some p.2)), (18, .sl 6 (encXl e.l) none), (19, AI (e.l.length : Nat)), (20, AI (p.1 : Nat))], []⟩, [.tail 1 p.2, .box _ (cellsX e)]))
          (fun p => p.1 ≤ e.l.length) (fun p => e.l.length - p.1) (0, _) (Nat.zero_le _) rfl fun p hi ih2 => ?_
        obtain ⟨i, z⟩ := p
        (repeat first|refine A.s rfl ?_|refine A.r rfl rfl ?_|refine A.w rfl rfl ?_|refine A.p rfl ?_|refine A.b rfl fun bx=>?_|refine A.t rfl fun bl=>?_)
        refine A.cond rfl (fun hc => ?_) (fun hc => ?_)
        · simp at hc
          refine Exists.elim (at_exN (l := e.l) (i := i) (by omega)) fun x hx => ?_
          have hxm := List.mem_of_getElem? hx
          have ihx := ih x hxm
          have h1 := namesXl_len (e.l.take i)
          have h2 := szXl_take e.l i
          have h3 := namesX_len x
          have h4 := szXl_le hxm
          (repeat first|refine A.s rfl ?_|refine A.r rfl rfl ?_|refine A.w rfl rfl ?_|refine A.p rfl ?_|refine A.b rfl fun bx=>?_|refine A.t rfl fun bl=>?_)
          refine A.x rfl (by show (0 : Int) ≤ (i : Nat); omega) (encXl_at hx) (encX_eq x) rfl ?_
          rw [encX_eq x] at ihx
          (repeat first|refine A.s rfl ?_|refine A.r rfl rfl ?_|refine A.w rfl rfl ?_|refine A.p rfl ?_|refine A.b rfl fun bx=>?_|refine A.t rfl fun bl=>?_)
          refine A.c rfl ihx .refl ?_
          refine A.entsEq (Λ' := [.box _ _, .tail ty9.size z, .box _ _]) rfl ?_
          refine A.append rfl rfl rfl rfl rfl rfl rfl rfl rfl rfl rfl rfl rfl rfl (by show ((List.map AS (hd ++ namesXl (e.l.take i))).length + (List.map AS (namesX x)).length) * 1 ≤ _; rw [List.length_map, List.length_map, List.length_append]; omega) fun z' => ?_
          refine A.valE 27 rfl (x' := .sl 1 ((hd ++ namesXl (e.l.take (i + 1))).map AS) (some z')) (by rw [namesXl_at hx, ← List.append_assoc, List.map_append (l₁ := hd ++ namesXl (e.l.take i))]; rfl) ?_
          (repeat first|refine A.s rfl ?_|refine A.r rfl rfl ?_|refine A.w rfl rfl ?_|refine A.p rfl ?_|refine A.b rfl fun bx=>?_|refine A.t rfl fun bl=>?_)
          refine A.valE 20 rfl (x' := AI ((i + 1 : Nat) : Int)) (inc_eq i (by omega)) ?_
          refine A.less (Λ' := [.tail 1 _, .box _ (cellsX e)]) (by repeat (first | exact List.Sublist.refl _ | apply List.Sublist.cons_cons | apply List.Sublist.cons)) ?_
          refine A.sub (by repeat (first | exact trivial | refine ⟨⟨_, rfl, .refl⟩, ?_⟩)) (ih2 (i + 1, z') (by show i + 1 ≤ _; omega) (by show _ - (i + 1) < _ - i; omega))
        · simp at hc
          have hi' : i = e.l.length := by show i = _; have : i ≤ e.l.length := hi; omega
          subst hi'
          (repeat first|refine A.s rfl ?_|refine A.r rfl rfl ?_|refine A.w rfl rfl ?_|refine A.p rfl ?_|refine A.b rfl fun bx=>?_|refine A.t rfl fun bl=>?_); refine A.ret1 (Λ' := []) rfl rfl rfl (List.nil_sublist _) ⟨?_, rfl⟩
          refine Sb.own ?_
          rw [List.take_length]
          exact .refl
    · generalize hhd : ([] : List (List UInt8)) = hd
      have hdl : hd.length = 0 := by rw [← hhd]; rfl
      have hnx : namesX e = hd ++ namesXl e.l := by rw [namesX_eq, if_neg hk, hhd]
      rw [hnx, encX_eq e]
      refine Pure.of (S := tt) (fn := Try.f25) (n := 30) tt_ok Try.func25 rfl rfl rfl rfl fun w0 h0 F hgs => ?_
      (repeat first|refine A.s rfl ?_|refine A.r rfl rfl ?_|refine A.w rfl rfl ?_|refine A.p rfl ?_|refine A.b rfl fun bx=>?_|refine A.t rfl fun bl=>?_)
      refine A.gF rfl (by simp; omega) ?_
      (repeat first|refine A.s rfl ?_|refine A.r rfl rfl ?_|refine A.w rfl rfl ?_|refine A.p rfl ?_|refine A.b rfl fun bx=>?_|refine A.t rfl fun bl=>?_)
      refine A.gF rfl (by simp; omega) ?_
      (repeat first|refine A.s rfl ?_|refine A.r rfl rfl ?_|refine A.w rfl rfl ?_|refine A.p rfl ?_|refine A.b rfl fun bx=>?_|refine A.t rfl fun bl=>?_)
      refine A.gF rfl (by simp; omega) ?_
      (repeat first|refine A.s rfl ?_|refine A.r rfl rfl ?_|refine A.w rfl rfl ?_|refine A.p rfl ?_|refine A.b rfl fun bx=>?_|refine A.t rfl fun bl=>?_)
      refine A.nilTail 3 1 rfl ?_
      refine A.valE 3 rfl (x' := .sl 1 ((hd ++ namesXl (e.l.take 0)).map AS) (some (.slice none 0 0))) (by rw [List.take_zero, namesXl, List.append_nil, ← hhd]; rfl) ?_
      (repeat first|refine A.s rfl ?_|refine A.r rfl rfl ?_|refine A.w rfl rfl ?_|refine A.p rfl ?_|refine A.b rfl fun bx=>?_|refine A.t rfl fun bl=>?_)
      refine A.valE 19 rfl (x' := AI (e.l.length : Nat)) (ai_eq hlen) ?_
      refine A.keep [1, 3, 18, 19, 20] rfl ?_
      refine A.less (Λ' := [.tail 1 _, .box _ (cellsX e)]) (by repeat (first | exact List.Sublist.refl _ | apply List.Sublist.cons_cons | apply List.Sublist.cons)) ?_
      refine A.loopP (ι := Nat × Value) (fun p => (⟨[(1, .v (.pointer (some ⟨_, 0, none⟩))), (3, .sl 1 ((hd ++ namesXl (e.l.take p.1)).map AS) (some p.2)), (18, .sl 6 (encXl e.l) none), (19, AI (e.l.length : Nat)), (20, AI (p.1 : Nat))], []⟩, [.tail 1 p.2, .box _ (cellsX e)]))
        (fun p => p.1 ≤ e.l.length) (fun p => e.l.length - p.1) (0, _) (Nat.zero_le _) rfl fun p hi ih2 => ?_
      obtain ⟨i, z⟩ := p
      (repeat first|refine A.s rfl ?_|refine A.r rfl rfl ?_|refine A.w rfl rfl ?_|refine A.p rfl ?_|refine A.b rfl fun bx=>?_|refine A.t rfl fun bl=>?_)
      refine A.cond rfl (fun hc => ?_) (fun hc => ?_)
      · simp at hc
        refine Exists.elim (at_exN (l := e.l) (i := i) (by omega)) fun x hx => ?_
        have hxm := List.mem_of_getElem? hx
        have ihx := ih x hxm
        have h1 := namesXl_len (e.l.take i)
        have h2 := szXl_take e.l i
        have h3 := namesX_len x
        have h4 := szXl_le hxm
        (repeat first|refine A.s rfl ?_|refine A.r rfl rfl ?_|refine A.w rfl rfl ?_|refine A.p rfl ?_|refine A.b rfl fun bx=>?_|refine A.t rfl fun bl=>?_)
        refine A.x rfl (by show (0 : Int) ≤ (i : Nat); omega) (encXl_at hx) (encX_eq x) rfl ?_
        rw [encX_eq x] at ihx
        (repeat first|refine A.s rfl ?_|refine A.r rfl rfl ?_|refine A.w rfl rfl ?_|refine A.p rfl ?_|refine A.b rfl fun bx=>?_|refine A.t rfl fun bl=>?_)
        refine A.c rfl ihx .refl ?_
        refine A.entsEq (Λ' := [.box _ _, .tail ty9.size z, .box _ _]) rfl ?_
        refine A.append rfl rfl rfl rfl rfl rfl rfl rfl rfl rfl rfl rfl rfl rfl (by show ((List.map AS (hd ++ namesXl (e.l.take i))).length + (List.map AS (namesX x)).length) * 1 ≤ _; rw [List.length_map, List.length_map, List.length_append]; omega) fun z' => ?_
        refine A.valE 27 rfl (x' := .sl 1 ((hd ++ namesXl (e.l.take (i + 1))).map AS) (some z')) (by rw [namesXl_at hx, ← List.append_assoc, List.map_append (l₁ := hd ++ namesXl (e.l.take i))]; rfl) ?_
        (repeat first|refine A.s rfl ?_|refine A.r rfl rfl ?_|refine A.w rfl rfl ?_|refine A.p rfl ?_|refine A.b rfl fun bx=>?_|refine A.t rfl fun bl=>?_)
        refine A.valE 20 rfl (x' := AI ((i + 1 : Nat) : Int)) (inc_eq i (by omega)) ?_
        refine A.less (Λ' := [.tail 1 _, .box _ (cellsX e)]) (by repeat (first | exact List.Sublist.refl _ | apply List.Sublist.cons_cons | apply List.Sublist.cons)) ?_
        refine A.sub (by repeat (first | exact trivial | refine ⟨⟨_, rfl, .refl⟩, ?_⟩)) (ih2 (i + 1, z') (by show i + 1 ≤ _; omega) (by show _ - (i + 1) < _ - i; omega))
      · simp at hc
        have hi' : i = e.l.length := by show i = _; have : i ≤ e.l.length := hi; omega
        subst hi'
        (repeat first|refine A.s rfl ?_|refine A.r rfl rfl ?_|refine A.w rfl rfl ?_|refine A.p rfl ?_|refine A.b rfl fun bx=>?_|refine A.t rfl fun bl=>?_); refine A.ret1 (Λ' := []) rfl rfl rfl (List.nil_sublist _) ⟨?_, rfl⟩
        refine Sb.own ?_
        rw [List.take_length]
        exact .refl
end Go.Proofs.Ytlnbmocgnkjlfaa
