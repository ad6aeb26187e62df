/-
  Layer 14 by the document: Const; FoldConst.
-/
import Derived.Test.YtlnbmocgnkjlfaaGreatQ14c2
import Derived.Test.YtlnbmocgnkjlfaaGreatQ14p

namespace Go.Proofs.YtlnbmocgnkjlfaaGreat
open Go Go.Tp
set_option linter.unusedVariables false
set_option linter.unusedSimpArgs false
set_option maxRecDepth 100000
set_option maxHeartbeats 4000000

theorem values14_p (env : List SP) (ok : SpecsOk env) : Pure Tryz.prog gs0 25 [specsA env] (valsA (valsP env env.length)) := by
  have hs := ok.size
  have hle : ((env.map encS).length : Int) = env.length := by rw [List.length_map]
  refine Pure.of (S := tt) (fn := Tryz.f25) (n := 46) tt_ok Tryz.func25 rfl rfl rfl rfl fun w0 h0 F hgs => ?_
  (repeat first|refine A.s rfl ?_|refine A.r rfl rfl ?_|refine A.w rfl rfl ?_|refine A.p rfl ?_|refine A.b rfl fun bx=>?_|refine A.t rfl fun bl=>?_)
  refine A.nilTail 3 2 rfl ?_
  refine A.keep [0, 3, 4] rfl ?_
  refine A.loopP (ι := Nat × Value) (fun p => (⟨[(0, specsA env), (3, .sl 2 ((valsP env p.1).map valA) (some p.2)), (4, AI (p.1 : Nat))], []⟩, [.tail 2 p.2])) (fun p => p.1 ≤ env.length) (fun p => env.length - p.1) (0, .slice none 0 0) (Nat.zero_le _) rfl fun p hi ih => ?_
  obtain ⟨i, z⟩ := p
  have hi : i ≤ env.length := hi
  (repeat first|refine A.s rfl ?_|refine A.r rfl rfl ?_|refine A.w rfl rfl ?_|refine A.p rfl ?_|refine A.b rfl fun bx=>?_|refine A.t rfl fun bl=>?_)
  refine A.valE 8 rfl (x' := AI (env.length : Nat)) (ai_eq hle) ?_
  (repeat first|refine A.s rfl ?_|refine A.r rfl rfl ?_|refine A.w rfl rfl ?_|refine A.p rfl ?_|refine A.b rfl fun bx=>?_|refine A.t rfl fun bl=>?_)
  refine A.cond rfl (fun hc => ?_) (fun hc => ?_)
  · simp at hc
    refine Exists.elim (at_exN (l := env) (i := i) (by omega)) fun x hx => ?_
    have hxm := List.mem_of_getElem? hx
    have hmy := may10_p x.e (ok.exprs x hxm)
    have hlv := valsP_len env i
    have eNx := inc_eq i (by omega)
    rw [encX_eq] at hmy
    by_cases hk : x.kind = 2
    · by_cases hvd : validX x.e
      · have hvp := value14_p env i hi (valsP env i) (valsP_ok env ok i hi) (valsP_zero env i) (by omega) ok.names (htX x.e) x.e (Nat.le_refl _) (ok.exprs x hxm) hvd.1
        have hst : stepV env i (valsP env i) = valX (env.take i) (valsP env i) x.e := by unfold stepV; rw [hx]; exact if_pos ⟨hk, hvd⟩
        rw [encX_eq] at hvp
        (repeat first|refine A.s rfl ?_|refine A.r rfl rfl ?_|refine A.w rfl rfl ?_|refine A.p rfl ?_|refine A.b rfl fun bx=>?_|refine A.t rfl fun bl=>?_)
        refine A.x rfl (by show (0 : Int) ≤ (i : Nat); omega) (map_at hx) rfl rfl ?_
        (repeat first|refine A.s rfl ?_|refine A.r rfl rfl ?_|refine A.w rfl rfl ?_|refine A.p rfl ?_|refine A.b rfl fun bx=>?_|refine A.t rfl fun bl=>?_)
        refine A.gT rfl (by simp [hk]) ?_
        (repeat first|refine A.s rfl ?_|refine A.r rfl rfl ?_|refine A.w rfl rfl ?_|refine A.p rfl ?_|refine A.b rfl fun bx=>?_|refine A.t rfl fun bl=>?_)
        refine A.x rfl (by show (0 : Int) ≤ (i : Nat); omega) (map_at hx) rfl rfl ?_
        (repeat first|refine A.s rfl ?_|refine A.r rfl rfl ?_|refine A.w rfl rfl ?_|refine A.p rfl ?_|refine A.b rfl fun bx=>?_|refine A.t rfl fun bl=>?_)
        refine A.c rfl hmy .refl ?_
        (repeat first|refine A.s rfl ?_|refine A.r rfl rfl ?_|refine A.w rfl rfl ?_|refine A.p rfl ?_|refine A.b rfl fun bx=>?_|refine A.t rfl fun bl=>?_)
        refine A.gT rfl (by simp [hvd]) ?_
        (repeat first|refine A.s rfl ?_|refine A.r rfl rfl ?_|refine A.w rfl rfl ?_|refine A.p rfl ?_|refine A.b rfl fun bx=>?_|refine A.t rfl fun bl=>?_)
        refine A.x rfl (by show (0 : Int) ≤ (i : Nat); omega) (map_at hx) rfl rfl ?_
        (repeat first|refine A.s rfl ?_|refine A.r rfl rfl ?_|refine A.w rfl rfl ?_|refine A.p rfl ?_|refine A.b rfl fun bx=>?_|refine A.t rfl fun bl=>?_)
        refine A.c rfl hvp (by repeat (first | exact Sb.refl | exact SbL.refl | refine SbL.cons ?_ ?_ | exact Sb.nil | exact Sb.own1 | refine Sb.own ?_ | refine Sb.ag ?_ | refine Sb.tp ?_)) ?_
        (repeat first|refine A.s rfl ?_|refine A.r rfl rfl ?_|refine A.w rfl rfl ?_|refine A.p rfl ?_|refine A.b rfl fun bx=>?_|refine A.t rfl fun bl=>?_)
        refine A.entsEq (Λ' := [.box _ _, .tail 2 z]) rfl ?_
        refine A.entsEq (Λ' := [.box _ _, .tail ty83.size z]) rfl ?_
        refine A.append rfl rfl rfl rfl rfl rfl rfl rfl rfl rfl rfl rfl rfl rfl (by show ((List.map valA (valsP env i)).length + 1) * 2 ≤ _; rw [List.length_map, hlv]; omega) fun z' => ?_
        refine A.valE 44 rfl (x' := .sl 2 ((valsP env (i + 1)).map valA) (some z')) (by rw [valsP, hst, List.map_append]; rfl) ?_
        (repeat first|refine A.s rfl ?_|refine A.r rfl rfl ?_|refine A.w rfl rfl ?_|refine A.p rfl ?_|refine A.b rfl fun bx=>?_|refine A.t rfl fun bl=>?_)
        refine A.valE 4 rfl (x' := AI ((i + 1 : Nat) : Int)) eNx ?_
        refine A.less (Λ' := [.tail 2 z']) (by repeat (first | exact List.Sublist.refl _ | apply List.Sublist.cons_cons | apply List.Sublist.cons)) ?_
        refine A.sub (by repeat (first | exact trivial | refine ⟨⟨_, rfl, .refl⟩, ?_⟩)) (ih (i + 1, z') (by show i + 1 ≤ _; omega) (by show _ - (i + 1) < _ - i; omega))
      · have hst : stepV env i (valsP env i) = (0, false) := by unfold stepV; rw [hx]; exact if_neg (fun h => hvd h.2)
        (repeat first|refine A.s rfl ?_|refine A.r rfl rfl ?_|refine A.w rfl rfl ?_|refine A.p rfl ?_|refine A.b rfl fun bx=>?_|refine A.t rfl fun bl=>?_)
        refine A.x rfl (by show (0 : Int) ≤ (i : Nat); omega) (map_at hx) rfl rfl ?_
        (repeat first|refine A.s rfl ?_|refine A.r rfl rfl ?_|refine A.w rfl rfl ?_|refine A.p rfl ?_|refine A.b rfl fun bx=>?_|refine A.t rfl fun bl=>?_)
        refine A.gT rfl (by simp [hk]) ?_
        (repeat first|refine A.s rfl ?_|refine A.r rfl rfl ?_|refine A.w rfl rfl ?_|refine A.p rfl ?_|refine A.b rfl fun bx=>?_|refine A.t rfl fun bl=>?_)
        refine A.x rfl (by show (0 : Int) ≤ (i : Nat); omega) (map_at hx) rfl rfl ?_
        (repeat first|refine A.s rfl ?_|refine A.r rfl rfl ?_|refine A.w rfl rfl ?_|refine A.p rfl ?_|refine A.b rfl fun bx=>?_|refine A.t rfl fun bl=>?_)
        refine A.c rfl hmy .refl ?_
        (repeat first|refine A.s rfl ?_|refine A.r rfl rfl ?_|refine A.w rfl rfl ?_|refine A.p rfl ?_|refine A.b rfl fun bx=>?_|refine A.t rfl fun bl=>?_)
        refine A.gF rfl (by simp [hvd]) ?_
        (repeat first|refine A.s rfl ?_|refine A.r rfl rfl ?_|refine A.w rfl rfl ?_|refine A.p rfl ?_|refine A.b rfl fun bx=>?_|refine A.t rfl fun bl=>?_)
        refine A.entsEq (Λ' := [.box _ _, .tail ty83.size z]) rfl ?_
        refine A.append rfl rfl rfl rfl rfl rfl rfl rfl rfl rfl rfl rfl rfl rfl (by show ((List.map valA (valsP env i)).length + 1) * 2 ≤ _; rw [List.length_map, hlv]; omega) fun z' => ?_
        refine A.valE 44 rfl (x' := .sl 2 ((valsP env (i + 1)).map valA) (some z')) (by rw [valsP, hst, List.map_append]; rfl) ?_
        (repeat first|refine A.s rfl ?_|refine A.r rfl rfl ?_|refine A.w rfl rfl ?_|refine A.p rfl ?_|refine A.b rfl fun bx=>?_|refine A.t rfl fun bl=>?_)
        refine A.valE 4 rfl (x' := AI ((i + 1 : Nat) : Int)) eNx ?_
        refine A.less (Λ' := [.tail 2 z']) (by repeat (first | exact List.Sublist.refl _ | apply List.Sublist.cons_cons | apply List.Sublist.cons)) ?_
        refine A.sub (by repeat (first | exact trivial | refine ⟨⟨_, rfl, .refl⟩, ?_⟩)) (ih (i + 1, z') (by show i + 1 ≤ _; omega) (by show _ - (i + 1) < _ - i; omega))
    · have hst : stepV env i (valsP env i) = (0, false) := by unfold stepV; rw [hx]; exact if_neg (fun h => hk h.1)
      (repeat first|refine A.s rfl ?_|refine A.r rfl rfl ?_|refine A.w rfl rfl ?_|refine A.p rfl ?_|refine A.b rfl fun bx=>?_|refine A.t rfl fun bl=>?_)
      refine A.x rfl (by show (0 : Int) ≤ (i : Nat); omega) (map_at hx) rfl rfl ?_
      (repeat first|refine A.s rfl ?_|refine A.r rfl rfl ?_|refine A.w rfl rfl ?_|refine A.p rfl ?_|refine A.b rfl fun bx=>?_|refine A.t rfl fun bl=>?_)
      refine A.gF rfl (by simp [hk]) ?_
      (repeat first|refine A.s rfl ?_|refine A.r rfl rfl ?_|refine A.w rfl rfl ?_|refine A.p rfl ?_|refine A.b rfl fun bx=>?_|refine A.t rfl fun bl=>?_)
      refine A.entsEq (Λ' := [.box _ _, .tail ty83.size z]) rfl ?_
      refine A.append rfl rfl rfl rfl rfl rfl rfl rfl rfl rfl rfl rfl rfl rfl (by show ((List.map valA (valsP env i)).length + 1) * 2 ≤ _; rw [List.length_map, hlv]; omega) fun z' => ?_
      refine A.valE 44 rfl (x' := .sl 2 ((valsP env (i + 1)).map valA) (some z')) (by rw [valsP, hst, List.map_append]; rfl) ?_
      (repeat first|refine A.s rfl ?_|refine A.r rfl rfl ?_|refine A.w rfl rfl ?_|refine A.p rfl ?_|refine A.b rfl fun bx=>?_|refine A.t rfl fun bl=>?_)
      refine A.valE 4 rfl (x' := AI ((i + 1 : Nat) : Int)) eNx ?_
      refine A.less (Λ' := [.tail 2 z']) (by repeat (first | exact List.Sublist.refl _ | apply List.Sublist.cons_cons | apply List.Sublist.cons)) ?_
      refine A.sub (by repeat (first | exact trivial | refine ⟨⟨_, rfl, .refl⟩, ?_⟩)) (ih (i + 1, z') (by show i + 1 ≤ _; omega) (by show _ - (i + 1) < _ - i; omega))
  · simp at hc
    have : i = env.length := by omega
    subst this
    (repeat first|refine A.s rfl ?_|refine A.r rfl rfl ?_|refine A.w rfl rfl ?_|refine A.p rfl ?_|refine A.b rfl fun bx=>?_|refine A.t rfl fun bl=>?_); refine A.ret1 (Λ' := []) rfl rfl rfl (List.nil_sublist _) ⟨?_, rfl⟩; exact Sb.own1
theorem const14_p (env : List SP) (ok : SpecsOk env) (e : XE) (hw : wfX e) : Pure Tryz.prog gs0 8 [encX e, specsA env] (.tp [AI32 (constE env e).1, AI (constE env e).2]) := by
  have hmy := may10_p e hw
  have hvs := values14_p env ok
  have hle : ((env.map encS).length : Int) = env.length := by rw [List.length_map]
  rw [encX_eq e] at hmy ⊢
  by_cases hv : validX e
  · have hok := valsP_ok env ok env.length (Nat.le_refl _)
    have hvp := value14_p env env.length (Nat.le_refl _) (valsP env env.length) hok (valsP_zero env _) (by have := ok.size; omega) ok.names (htX e) e (Nat.le_refl _) hw hv.1
    rw [List.take_length] at hvp
    rw [encX_eq e] at hvp
    have hc : constE env e = if (valE env e).2 then ((valE env e).1, 0) else (0, 140) := if_pos hv
    rw [decide_eq_true hv] at hmy
    rw [hc]
    cases hb : (valE env e).2 with
    | true =>
      rw [show valX env (valsP env env.length) e = ((valE env e).1, true) by rw [← hb]; rfl] at hvp
      refine Pure.of (S := tt) (fn := Tryz.f8) (n := 24) tt_ok Tryz.func8 rfl rfl rfl rfl fun w0 h0 F hgs => ?_
      (repeat first|refine A.s rfl ?_|refine A.r rfl rfl ?_|refine A.w rfl rfl ?_|refine A.p rfl ?_|refine A.b rfl fun bx=>?_|refine A.t rfl fun bl=>?_); refine A.c rfl hmy .refl ?_
      (repeat first|refine A.s rfl ?_|refine A.r rfl rfl ?_|refine A.w rfl rfl ?_|refine A.p rfl ?_|refine A.b rfl fun bx=>?_|refine A.t rfl fun bl=>?_)
      refine A.draw 12 [0, 1, 2, 3, 4, 5, 6, 7, 8, 9, 10, 11] noPubs [(5, valsA (valsP env env.length)), (6, tpV ((valE env e).1, true))] (by kernel_rfl) (by kernel_rfl) ?_
      (repeat first|refine WA.s rfl ?_|refine WA.r rfl rfl ?_|refine WA.p rfl ?_)
      refine WA.valE 15 rfl (x' := AI (env.length : Nat)) (ai_eq hle) ?_
      refine WA.c rfl rfl hvs (.sub .refl) ?_
      refine WA.c rfl rfl hvp (.sub .refl) ?_
      (repeat first|refine WA.s rfl ?_|refine WA.r rfl rfl ?_|refine WA.p rfl ?_)
      refine WA.nil (l := []) rfl ?_
      (repeat first|refine A.s rfl ?_|refine A.r rfl rfl ?_|refine A.w rfl rfl ?_|refine A.p rfl ?_|refine A.b rfl fun bx=>?_|refine A.t rfl fun bl=>?_); refine A.ret2 (Λ' := []) rfl rfl rfl rfl (List.nil_sublist _) ⟨?_, rfl⟩; exact .refl
    | false =>
      rw [show valX env (valsP env env.length) e = ((valE env e).1, false) by rw [← hb]; rfl] at hvp
      refine Pure.of (S := tt) (fn := Tryz.f8) (n := 24) tt_ok Tryz.func8 rfl rfl rfl rfl fun w0 h0 F hgs => ?_
      (repeat first|refine A.s rfl ?_|refine A.r rfl rfl ?_|refine A.w rfl rfl ?_|refine A.p rfl ?_|refine A.b rfl fun bx=>?_|refine A.t rfl fun bl=>?_); refine A.c rfl hmy .refl ?_
      (repeat first|refine A.s rfl ?_|refine A.r rfl rfl ?_|refine A.w rfl rfl ?_|refine A.p rfl ?_|refine A.b rfl fun bx=>?_|refine A.t rfl fun bl=>?_)
      refine A.draw 12 [0, 1, 2, 3, 4, 5, 6, 7, 8, 9, 10, 11] noPubs [(5, valsA (valsP env env.length)), (6, tpV ((valE env e).1, false))] (by kernel_rfl) (by kernel_rfl) ?_
      (repeat first|refine WA.s rfl ?_|refine WA.r rfl rfl ?_|refine WA.p rfl ?_)
      refine WA.valE 15 rfl (x' := AI (env.length : Nat)) (ai_eq hle) ?_
      refine WA.c rfl rfl hvs (.sub .refl) ?_
      refine WA.c rfl rfl hvp (.sub .refl) ?_
      (repeat first|refine WA.s rfl ?_|refine WA.r rfl rfl ?_|refine WA.p rfl ?_)
      refine WA.nil (l := []) rfl ?_
      (repeat first|refine A.s rfl ?_|refine A.r rfl rfl ?_|refine A.w rfl rfl ?_|refine A.p rfl ?_|refine A.b rfl fun bx=>?_|refine A.t rfl fun bl=>?_); refine A.ret2 (Λ' := []) rfl rfl rfl rfl (List.nil_sublist _) ⟨?_, rfl⟩; exact .refl
  · have hc : constE env e = (0, 2) := if_neg hv
    rw [decide_eq_false hv] at hmy
    rw [hc]
    refine Pure.of (S := tt) (fn := Tryz.f8) (n := 24) tt_ok Tryz.func8 rfl rfl rfl rfl fun w0 h0 F hgs => ?_
    (repeat first|refine A.s rfl ?_|refine A.r rfl rfl ?_|refine A.w rfl rfl ?_|refine A.p rfl ?_|refine A.b rfl fun bx=>?_|refine A.t rfl fun bl=>?_); refine A.c rfl hmy .refl ?_
    (repeat first|refine A.s rfl ?_|refine A.r rfl rfl ?_|refine A.w rfl rfl ?_|refine A.p rfl ?_|refine A.b rfl fun bx=>?_|refine A.t rfl fun bl=>?_); refine A.ret2 (Λ' := []) rfl rfl rfl rfl (List.nil_sublist _) ⟨?_, rfl⟩; exact .refl
theorem const_law (m : Int) (env : List SP) (hb : env.length ≤ 281474976710656) (hd : ∀ x, x ∈ env → i64 x.dim) (he : ∀ x, x ∈ env → wfX x.e) (e : XE) (hw : wfX e) : Pure Tryz.prog (gsM m) 3 [encX e, specsA env] (AB true) := by
  have g1 := (great14_p env hb).any (gs := gsM m)
  rw [encX_eq e]
  cases hg : great14 env with
  | true =>
    rw [hg] at g1
    refine Pure.of (S := tt) (fn := Tryz.f3) (n := 35) tt_ok Tryz.func3 rfl rfl rfl rfl fun w0 h0 F hgs => ?_
    (repeat first|refine A.s rfl ?_|refine A.r rfl rfl ?_|refine A.w rfl rfl ?_|refine A.p rfl ?_|refine A.b rfl fun bx=>?_|refine A.t rfl fun bl=>?_); refine A.c rfl g1 .refl ?_
    ((repeat first|refine A.s rfl ?_|refine A.r rfl rfl ?_|refine A.w rfl rfl ?_|refine A.p rfl ?_|refine A.b rfl fun bx=>?_|refine A.t rfl fun bl=>?_); refine A.c rfl (awake_p m) .refl ?_; (repeat first|refine A.s rfl ?_|refine A.r rfl rfl ?_|refine A.w rfl rfl ?_|refine A.p rfl ?_|refine A.b rfl fun bx=>?_|refine A.t rfl fun bl=>?_); refine A.ret1 (Λ' := []) rfl rfl rfl (List.nil_sublist _) ⟨?_, rfl⟩; exact .refl)
  | false =>
  rw [hg] at g1
  obtain ⟨ok, _⟩ := great_ok hg hd he
  have c1 := const_p m env ok e hw
  have c2 := (const14_p env ok e hw).any (gs := gsM m)
  rw [encX_eq e] at c1 c2
  refine Pure.of (S := tt) (fn := Tryz.f3) (n := 35) tt_ok Tryz.func3 rfl rfl rfl rfl fun w0 h0 F hgs => ?_
  (repeat first|refine A.s rfl ?_|refine A.r rfl rfl ?_|refine A.w rfl rfl ?_|refine A.p rfl ?_|refine A.b rfl fun bx=>?_|refine A.t rfl fun bl=>?_); refine A.c rfl g1 .refl ?_
  (repeat first|refine A.s rfl ?_|refine A.r rfl rfl ?_|refine A.w rfl rfl ?_|refine A.p rfl ?_|refine A.b rfl fun bx=>?_|refine A.t rfl fun bl=>?_); refine A.c rfl c1 .refl ?_
  (repeat first|refine A.s rfl ?_|refine A.r rfl rfl ?_|refine A.w rfl rfl ?_|refine A.p rfl ?_|refine A.b rfl fun bx=>?_|refine A.t rfl fun bl=>?_); refine A.c rfl c2 .refl ?_
  (repeat first|refine A.s rfl ?_|refine A.r rfl rfl ?_|refine A.w rfl rfl ?_|refine A.p rfl ?_|refine A.b rfl fun bx=>?_|refine A.t rfl fun bl=>?_)
  refine A.gT rfl (beq_self_eq_true _) ?_
  (repeat first|refine A.s rfl ?_|refine A.r rfl rfl ?_|refine A.w rfl rfl ?_|refine A.p rfl ?_|refine A.b rfl fun bx=>?_|refine A.t rfl fun bl=>?_)
  refine A.gT rfl (beq_self_eq_true _) ?_
  ((repeat first|refine A.s rfl ?_|refine A.r rfl rfl ?_|refine A.w rfl rfl ?_|refine A.p rfl ?_|refine A.b rfl fun bx=>?_|refine A.t rfl fun bl=>?_); refine A.c rfl (awake_p m) .refl ?_; (repeat first|refine A.s rfl ?_|refine A.r rfl rfl ?_|refine A.w rfl rfl ?_|refine A.p rfl ?_|refine A.b rfl fun bx=>?_|refine A.t rfl fun bl=>?_); refine A.ret1 (Λ' := []) rfl rfl rfl (List.nil_sublist _) ⟨?_, rfl⟩; exact .refl)
end Go.Proofs.YtlnbmocgnkjlfaaGreat
