/-
  Layer 14 by the document: literals, Fold; FoldFolds.
-/
import Derived.Test.YtlnbmocgnkjlfaaGreatQ14c3
import Derived.Test.YtlnbmocgnkjlfaaGreatLe

namespace Go.Proofs.YtlnbmocgnkjlfaaGreat
open Go Go.Tp
set_option linter.unusedVariables false
set_option linter.unusedSimpArgs false
set_option maxRecDepth 100000
set_option maxHeartbeats 4000000

theorem kind14_p (env : List SP) (e : XE) (hb : env.length ≤ 281474976710656) (hm : ∀ x, x ∈ env → x.names.length ≤ 281474976710656) (hf : e.kind = 4 → 0 ≤ findB env e.s env.length) :
    Pure Tryz.prog gs0 41 [encX e, specsA env] (AU8 (litK env e)) := by
  have hfd := find14_p env e.s env.length (Nat.le_refl _) hb hm
  have hlt := findB_lt env e.s env.length
  have hle : ((env.map encS).length : Int) = env.length := by rw [List.length_map]
  rw [encX_eq]
  by_cases h23 : e.kind = 2 ∨ e.kind = 3
  · have hlk : litK env e = e.kind := if_pos h23
    rw [hlk]
    rcases h23 with h | h
    all_goals (rw [h]; refine Pure.of (S := tt) (fn := Tryz.f41) (n := 48) tt_ok Tryz.func41 rfl rfl rfl rfl fun w0 h0 F hgs => ?_; (repeat first|refine A.s rfl ?_|refine A.r rfl rfl ?_|refine A.w rfl rfl ?_|refine A.p rfl ?_|refine A.b rfl fun bx=>?_|refine A.t rfl fun bl=>?_); refine A.ret1 (Λ' := []) rfl rfl rfl (List.nil_sublist _) ⟨?_, rfl⟩; exact .refl)
  by_cases h4 : e.kind = 4
  · have hp := hf h4
    refine Exists.elim (at_ex (l := env) hp hlt.2) fun x hx => ?_
    have hlk : litK env e = if x.tk = 2 then 2 else if x.tk = 3 then 3 else 1 := by rw [litK, if_neg h23, if_pos h4, hx]; rfl
    rw [h4]
    generalize litK env e = r at hlk
    refine Pure.of (S := tt) (fn := Tryz.f41) (n := 48) tt_ok Tryz.func41 rfl rfl rfl rfl fun w0 h0 F hgs => ?_
    (repeat first|refine A.s rfl ?_|refine A.r rfl rfl ?_|refine A.w rfl rfl ?_|refine A.p rfl ?_|refine A.b rfl fun bx=>?_|refine A.t rfl fun bl=>?_)
    refine A.valE 22 rfl (x' := AI (env.length : Nat)) (ai_eq hle) ?_
    (repeat first|refine A.s rfl ?_|refine A.r rfl rfl ?_|refine A.w rfl rfl ?_|refine A.p rfl ?_|refine A.b rfl fun bx=>?_|refine A.t rfl fun bl=>?_); refine A.c rfl hfd .refl ?_
    refine A.x rfl hp (map_at hx) rfl rfl ?_
    (repeat' first|refine A.s rfl ?_|refine A.r rfl rfl ?_|refine A.w rfl rfl ?_|refine A.p rfl ?_|refine A.b rfl fun bx=>?_|refine A.t rfl fun bl=>?_|((fail_if_success (refine A.lit? rfl ?_)); refine A.gS rfl (fun hc => ?_) (fun hc => ?_))|((fail_if_success (refine A.litP? rfl ?_)); refine A.gSP rfl (fun hc => ?_) (fun hc => ?_)))
    all_goals (refine A.ret1 (Λ' := []) rfl rfl rfl (List.nil_sublist _) ⟨?_, rfl⟩; refine Sb.eq (au8_eq ?_); rw [hlk]; simp at *; (repeat' split) <;> first | rfl | omega)
  have hlk : litK env e = if (e.kind = 6 ∨ e.kind = 7) ∧ (14 ≤ e.oper ∧ e.oper ≤ 22 ∨ e.oper = 26) then 3 else if e.to = 2 then 2 else if e.to = 3 then 3 else 1 := by
    rw [litK, if_neg h23, if_neg h4]
    by_cases hc : (e.kind = 6 ∨ e.kind = 7) ∧ boolO e.oper = true
    · rw [if_pos hc, if_pos ⟨hc.1, by simpa [boolO] using hc.2⟩]
    · rw [if_neg hc, if_neg (fun h => hc ⟨h.1, by simpa [boolO] using h.2⟩)]; rfl
  generalize litK env e = r at hlk
  refine Pure.of (S := tt) (fn := Tryz.f41) (n := 48) tt_ok Tryz.func41 rfl rfl rfl rfl fun w0 h0 F hgs => ?_
  (repeat first|refine A.s rfl ?_|refine A.r rfl rfl ?_|refine A.w rfl rfl ?_|refine A.p rfl ?_|refine A.b rfl fun bx=>?_|refine A.t rfl fun bl=>?_)
  refine A.gF rfl (by simp; omega) ?_
  (repeat first|refine A.s rfl ?_|refine A.r rfl rfl ?_|refine A.w rfl rfl ?_|refine A.p rfl ?_|refine A.b rfl fun bx=>?_|refine A.t rfl fun bl=>?_)
  refine A.gF rfl (by simp; omega) ?_
  (repeat first|refine A.s rfl ?_|refine A.r rfl rfl ?_|refine A.w rfl rfl ?_|refine A.p rfl ?_|refine A.b rfl fun bx=>?_|refine A.t rfl fun bl=>?_)
  refine A.gF rfl (by simp; omega) ?_
  (repeat' first|refine A.s rfl ?_|refine A.r rfl rfl ?_|refine A.w rfl rfl ?_|refine A.p rfl ?_|refine A.b rfl fun bx=>?_|refine A.t rfl fun bl=>?_|((fail_if_success (refine A.lit? rfl ?_)); refine A.gS rfl (fun hc => ?_) (fun hc => ?_))|((fail_if_success (refine A.litP? rfl ?_)); refine A.gSP rfl (fun hc => ?_) (fun hc => ?_)))
  all_goals (refine A.ret1 (Λ' := []) rfl rfl rfl (List.nil_sublist _) ⟨?_, rfl⟩; refine Sb.eq (au8_eq ?_); rw [hlk]; simp at *; (repeat' split) <;> first | rfl | omega)

theorem foldXl_at (env : List SP) (vals : List (Int × Bool)) {l : List XE} {i : Nat} {x : XE} (h : l[i]? = some x) : encXl (foldXl env vals (l.take (i + 1))) = encXl (foldXl env vals (l.take i)) ++ [cellsX (foldX env vals x)] := by
  rw [List.take_add_one, h, foldXl_map, foldXl_map, encXl_map, encXl_map, List.map_append, List.map_append]
  show _ ++ [encX (foldX env vals x)] = _
  rw [encX_eq (foldX env vals x)]
abbrev grow (e : XE) (l : List AV) (z : Value) : AV := .ag [AU8 e.kind, AU8 e.oper, AU8 e.to, AI32 e.n, AS e.s, .sl 6 l (some z)]
theorem fold14_p (env : List SP) (vals : List (Int × Bool)) (ok : EnvOk env vals) (hz : zeroV vals) : ∀ (N : Nat) (e : XE), htX e ≤ N → wfX e → fineX e = true → Pure Tryz.prog gs0 27 [encX e, specsA env, valsA vals] (encX (foldX env vals e))
  | 0, e, hn, _, _ => by have := htX_pos e; omega
  | N + 1, e, hn, hw, hf => by
    have hvp := value14_p env env.length (Nat.le_refl _) vals (by rw [List.take_length]; exact ok) hz ok.size ok.names (htX e) e (Nat.le_refl _) hw hf
    rw [List.take_length] at hvp
    have hpr : valX env vals e = ((valX env vals e).1, (valX env vals e).2) := rfl
    have hle : ((env.map encS).length : Int) = env.length := by rw [List.length_map]
    have hli : (valX env vals e).2 = true → Pure Tryz.prog gs0 41 [encX e, specsA env] (AU8 (litK env e)) := fun hv =>
      kind14_p env e ok.size ok.names (fun h4 => by
        rw [valX_eq, if_neg (by omega), if_pos h4] at hv
        split at hv
        · assumption
        · cases hv)
    have hmy := may10_p (litX env vals e) (litX_wf (valX_in env vals ok e hw))
    have hlx : encX (litX env vals e) = .ag [AU8 (litK env e), AU8 0, AU8 0, AI32 (valX env vals e).1, .v (.string ⟨#[]⟩), .sl 6 [] none] := by rw [encX_eq]; rfl
    have hll : e.l.length ≤ 2 := by
      have h1 := hf
      rw [fineX_eq, Bool.and_eq_true] at h1
      have h2 := shape_l e h1.1
      split at h2
      · omega
      · split at h2 <;> omega
    have hlen : ((encXl e.l).length : Int) = e.l.length := by rw [encXl_len]
    have ih0 := fun x (hx : x ∈ e.l) => fold14_p env vals ok hz N x (by have := htXl_le hx; have := htX_eq e; omega) (wfXl_mem (wfX_l hw) x hx) (fineXl_mem (by rw [fineX_eq] at hf; rw [Bool.and_eq_true] at hf; exact hf.2) x hx)
    rw [hlx] at hmy
    rw [encX_eq e] at hvp hli ⊢
    by_cases hv : (valX env vals e).2 = true
    · have hli := hli hv
      rw [hpr, hv] at hvp
      by_cases hlv : validX (litX env vals e)
      · rw [decide_eq_true hlv] at hmy
        rw [foldX_eq, if_pos ⟨hv, hlv⟩, hlx]
        refine Pure.of (S := tt) (fn := Tryz.f27) (n := 53) tt_ok Tryz.func27 rfl rfl rfl rfl fun w0 h0 F hgs => ?_
        (repeat first|refine A.s rfl ?_|refine A.r rfl rfl ?_|refine A.w rfl rfl ?_|refine A.p rfl ?_|refine A.b rfl fun bx=>?_|refine A.t rfl fun bl=>?_)
        refine A.valE 16 rfl (x' := AI (env.length : Nat)) (ai_eq hle) ?_
        (repeat first|refine A.s rfl ?_|refine A.r rfl rfl ?_|refine A.w rfl rfl ?_|refine A.p rfl ?_|refine A.b rfl fun bx=>?_|refine A.t rfl fun bl=>?_); refine A.c rfl hvp .refl ?_
        (repeat first|refine A.s rfl ?_|refine A.r rfl rfl ?_|refine A.w rfl rfl ?_|refine A.p rfl ?_|refine A.b rfl fun bx=>?_|refine A.t rfl fun bl=>?_); refine A.c rfl hli .refl ?_
        (repeat first|refine A.s rfl ?_|refine A.r rfl rfl ?_|refine A.w rfl rfl ?_|refine A.p rfl ?_|refine A.b rfl fun bx=>?_|refine A.t rfl fun bl=>?_); refine A.c rfl hmy (by repeat (first | exact Sb.refl | exact SbL.refl | refine SbL.cons ?_ ?_ | exact Sb.nil | exact Sb.own1 | refine Sb.own ?_ | refine Sb.ag ?_ | refine Sb.tp ?_)) ?_
        (repeat first|refine A.s rfl ?_|refine A.r rfl rfl ?_|refine A.w rfl rfl ?_|refine A.p rfl ?_|refine A.b rfl fun bx=>?_|refine A.t rfl fun bl=>?_); refine A.retC (Λ' := []) rfl rfl rfl rfl rfl (List.nil_sublist _) ⟨?_, rfl⟩; exact (by repeat (first | exact Sb.refl | exact SbL.refl | refine SbL.cons ?_ ?_ | exact Sb.nil | exact Sb.own1 | refine Sb.own ?_ | refine Sb.ag ?_ | refine Sb.tp ?_))
      · rw [decide_eq_false hlv] at hmy
        rw [foldX_eq, if_neg (fun h => hlv h.2), encX_eq]
        refine Pure.of (S := tt) (fn := Tryz.f27) (n := 53) tt_ok Tryz.func27 rfl rfl rfl rfl fun w0 h0 F hgs => ?_
        (repeat first|refine A.s rfl ?_|refine A.r rfl rfl ?_|refine A.w rfl rfl ?_|refine A.p rfl ?_|refine A.b rfl fun bx=>?_|refine A.t rfl fun bl=>?_)
        refine A.valE 16 rfl (x' := AI (env.length : Nat)) (ai_eq hle) ?_
        (repeat first|refine A.s rfl ?_|refine A.r rfl rfl ?_|refine A.w rfl rfl ?_|refine A.p rfl ?_|refine A.b rfl fun bx=>?_|refine A.t rfl fun bl=>?_); refine A.c rfl hvp .refl ?_
        (repeat first|refine A.s rfl ?_|refine A.r rfl rfl ?_|refine A.w rfl rfl ?_|refine A.p rfl ?_|refine A.b rfl fun bx=>?_|refine A.t rfl fun bl=>?_); refine A.c rfl hli .refl ?_
        (repeat first|refine A.s rfl ?_|refine A.r rfl rfl ?_|refine A.w rfl rfl ?_|refine A.p rfl ?_|refine A.b rfl fun bx=>?_|refine A.t rfl fun bl=>?_); refine A.c rfl hmy (by repeat (first | exact Sb.refl | exact SbL.refl | refine SbL.cons ?_ ?_ | exact Sb.nil | exact Sb.own1 | refine Sb.own ?_ | refine Sb.ag ?_ | refine Sb.tp ?_)) ?_
        (repeat first|refine A.s rfl ?_|refine A.r rfl rfl ?_|refine A.w rfl rfl ?_|refine A.p rfl ?_|refine A.b rfl fun bx=>?_|refine A.t rfl fun bl=>?_)
        refine A.less (Λ' := [.box _ (.ag [AU8 e.kind, AU8 e.oper, AU8 e.to, AI32 e.n, AS e.s, .v (.slice none 0 0)]), .box _ zeroX, .box _ (cellsX e)]) (by repeat (first | exact List.Sublist.refl _ | apply List.Sublist.cons_cons | apply List.Sublist.cons)) ?_
        refine A.boxAs (x' := grow e (encXl (foldXl env vals (e.l.take 0))) (.slice none 0 0)) (.refl _) (fun h => Rp_ag_imp (RpC_imp (fun _ r => r) (RpC_imp (fun _ r => r) (RpC_imp (fun _ r => r) (RpC_imp (fun _ r => r) (RpC_imp (fun _ r => r) (RpC_imp (fun y r => by rw [List.take_zero, foldXl, encXl]; exact nil_own 6 r) (fun _ r => r)))))))) ?_
        refine A.fullTail 6 0 none (fun _ => rfl) (fun x hx => by cases hx) ?_
        refine A.keep [1, 2, 3, 6, 10, 11] rfl ?_
        refine A.loopP (ι := Nat × Value) (fun p => (⟨[(1, specsA env), (2, valsA vals), (3, .v (.pointer (some ⟨_, 0, none⟩))), (6, .v (.pointer (some ⟨_, 0, none⟩))), (10, .v (.pointer (some ⟨_, 0, none⟩))), (11, AI (p.1 : Nat))], []⟩, [.tail 6 p.2, .box _ (grow e (encXl (foldXl env vals (e.l.take p.1))) p.2), .box _ zeroX, .box _ (cellsX e)]))
          (fun p => p.1 ≤ e.l.length) (fun p => e.l.length - p.1) (0, .slice none 0 0) (Nat.zero_le _) rfl fun p hi ih => ?_
        obtain ⟨i, z⟩ := p
        have hi : i ≤ e.l.length := hi
        (repeat first|refine A.s rfl ?_|refine A.r rfl rfl ?_|refine A.w rfl rfl ?_|refine A.p rfl ?_|refine A.b rfl fun bx=>?_|refine A.t rfl fun bl=>?_)
        refine A.valE 35 rfl (x' := AI (e.l.length : Nat)) (ai_eq hlen) ?_
        (repeat first|refine A.s rfl ?_|refine A.r rfl rfl ?_|refine A.w rfl rfl ?_|refine A.p rfl ?_|refine A.b rfl fun bx=>?_|refine A.t rfl fun bl=>?_)
        refine A.cond rfl (fun hc => ?_) (fun hc => ?_)
        · simp at hc
          refine Exists.elim (at_exN (l := e.l) (i := i) (by omega)) fun x hx => ?_
          have ihx := ih0 x (List.mem_of_getElem? hx)
          have hfa := foldXl_at env vals hx
          have eNx := inc_eq i (by omega)
          rw [encX_eq x, encX_eq (foldX env vals x)] at ihx
          (repeat first|refine A.s rfl ?_|refine A.r rfl rfl ?_|refine A.w rfl rfl ?_|refine A.p rfl ?_|refine A.b rfl fun bx=>?_|refine A.t rfl fun bl=>?_)
          refine A.draw 11 [0, 1, 2, 3, 4, 5, 6, 7, 8, 9, 10] noPubs [(9, cellsX (foldX env vals x))] (by kernel_rfl) (by kernel_rfl) ?_
          (repeat first|refine WA.s rfl ?_|refine WA.r rfl rfl ?_|refine WA.p rfl ?_)
          refine WA.x rfl (by show (0 : Int) ≤ (i : Nat); omega) (encXl_at hx) (encX_eq x) rfl ?_
          (repeat first|refine WA.s rfl ?_|refine WA.r rfl rfl ?_|refine WA.p rfl ?_)
          refine WA.c rfl rfl ihx (.sub .refl) ?_
          refine WA.lit rfl rfl rfl rfl rfl rfl rfl fun bw => ?_
          refine WA.nil (l := [.row 6 (.slice (some ⟨bw, 0, none⟩) 1 1) [cellsX (foldX env vals x)]]) rfl ?_
          refine A.freezeRow 49 rfl ?_
          refine A.entsEq (Λ' := [.tail ty27.size z, .box _ _, .box _ _, .box _ _]) rfl ?_
          refine A.append rfl rfl rfl rfl rfl rfl rfl rfl rfl rfl rfl rfl rfl rfl (by show ((encXl (foldXl env vals (e.l.take i))).length + 1) * 6 ≤ _; rw [encXl_len, foldXl_len, List.length_take]; omega) fun z' => ?_
          refine A.valE 50 rfl (x' := .sl 6 (encXl (foldXl env vals (e.l.take (i + 1)))) (some z')) (by rw [hfa]; rfl) ?_
          (repeat first|refine A.s rfl ?_|refine A.r rfl rfl ?_|refine A.w rfl rfl ?_|refine A.p rfl ?_|refine A.b rfl fun bx=>?_|refine A.t rfl fun bl=>?_)
          refine A.valE 11 rfl (x' := AI ((i + 1 : Nat) : Int)) eNx ?_
          refine A.sub (by repeat (first | exact trivial | refine ⟨⟨_, rfl, .refl⟩, ?_⟩)) (ih (i + 1, z') (by show i + 1 ≤ _; omega) (by show _ - (i + 1) < _ - i; omega))
        · simp at hc
          have hie : i = e.l.length := by omega
          subst hie
          (repeat first|refine A.s rfl ?_|refine A.r rfl rfl ?_|refine A.w rfl rfl ?_|refine A.p rfl ?_|refine A.b rfl fun bx=>?_|refine A.t rfl fun bl=>?_); refine A.retC (Λ' := []) rfl rfl rfl rfl rfl (List.nil_sublist _) ⟨?_, rfl⟩
          rw [List.take_length]
          exact (by repeat (first | exact Sb.refl | exact SbL.refl | refine SbL.cons ?_ ?_ | exact Sb.nil | exact Sb.own1 | refine Sb.own ?_ | refine Sb.ag ?_ | refine Sb.tp ?_))
    · have hv : (valX env vals e).2 = false := by simpa using hv
      rw [hpr, hv] at hvp
      rw [foldX_eq, if_neg (fun h => by have h1 := h.1; rw [hv] at h1; cases h1), encX_eq]
      refine Pure.of (S := tt) (fn := Tryz.f27) (n := 53) tt_ok Tryz.func27 rfl rfl rfl rfl fun w0 h0 F hgs => ?_
      (repeat first|refine A.s rfl ?_|refine A.r rfl rfl ?_|refine A.w rfl rfl ?_|refine A.p rfl ?_|refine A.b rfl fun bx=>?_|refine A.t rfl fun bl=>?_)
      refine A.valE 16 rfl (x' := AI (env.length : Nat)) (ai_eq hle) ?_
      (repeat first|refine A.s rfl ?_|refine A.r rfl rfl ?_|refine A.w rfl rfl ?_|refine A.p rfl ?_|refine A.b rfl fun bx=>?_|refine A.t rfl fun bl=>?_); refine A.c rfl hvp .refl ?_
      (repeat first|refine A.s rfl ?_|refine A.r rfl rfl ?_|refine A.w rfl rfl ?_|refine A.p rfl ?_|refine A.b rfl fun bx=>?_|refine A.t rfl fun bl=>?_)
      refine A.less (Λ' := [.box _ (.ag [AU8 e.kind, AU8 e.oper, AU8 e.to, AI32 e.n, AS e.s, .v (.slice none 0 0)]), .box _ zeroX, .box _ (cellsX e)]) (by repeat (first | exact List.Sublist.refl _ | apply List.Sublist.cons_cons | apply List.Sublist.cons)) ?_
      refine A.boxAs (x' := grow e (encXl (foldXl env vals (e.l.take 0))) (.slice none 0 0)) (.refl _) (fun h => Rp_ag_imp (RpC_imp (fun _ r => r) (RpC_imp (fun _ r => r) (RpC_imp (fun _ r => r) (RpC_imp (fun _ r => r) (RpC_imp (fun _ r => r) (RpC_imp (fun y r => by rw [List.take_zero, foldXl, encXl]; exact nil_own 6 r) (fun _ r => r)))))))) ?_
      refine A.fullTail 6 0 none (fun _ => rfl) (fun x hx => by cases hx) ?_
      refine A.keep [1, 2, 3, 6, 10, 11] rfl ?_
      refine A.loopP (ι := Nat × Value) (fun p => (⟨[(1, specsA env), (2, valsA vals), (3, .v (.pointer (some ⟨_, 0, none⟩))), (6, .v (.pointer (some ⟨_, 0, none⟩))), (10, .v (.pointer (some ⟨_, 0, none⟩))), (11, AI (p.1 : Nat))], []⟩, [.tail 6 p.2, .box _ (grow e (encXl (foldXl env vals (e.l.take p.1))) p.2), .box _ zeroX, .box _ (cellsX e)]))
        (fun p => p.1 ≤ e.l.length) (fun p => e.l.length - p.1) (0, .slice none 0 0) (Nat.zero_le _) rfl fun p hi ih => ?_
      obtain ⟨i, z⟩ := p
      have hi : i ≤ e.l.length := hi
      (repeat first|refine A.s rfl ?_|refine A.r rfl rfl ?_|refine A.w rfl rfl ?_|refine A.p rfl ?_|refine A.b rfl fun bx=>?_|refine A.t rfl fun bl=>?_)
      refine A.valE 35 rfl (x' := AI (e.l.length : Nat)) (ai_eq hlen) ?_
      (repeat first|refine A.s rfl ?_|refine A.r rfl rfl ?_|refine A.w rfl rfl ?_|refine A.p rfl ?_|refine A.b rfl fun bx=>?_|refine A.t rfl fun bl=>?_)
      refine A.cond rfl (fun hc => ?_) (fun hc => ?_)
      · simp at hc
        refine Exists.elim (at_exN (l := e.l) (i := i) (by omega)) fun x hx => ?_
        have ihx := ih0 x (List.mem_of_getElem? hx)
        have hfa := foldXl_at env vals hx
        have eNx := inc_eq i (by omega)
        rw [encX_eq x, encX_eq (foldX env vals x)] at ihx
        (repeat first|refine A.s rfl ?_|refine A.r rfl rfl ?_|refine A.w rfl rfl ?_|refine A.p rfl ?_|refine A.b rfl fun bx=>?_|refine A.t rfl fun bl=>?_)
        refine A.draw 11 [0, 1, 2, 3, 4, 5, 6, 7, 8, 9, 10] noPubs [(9, cellsX (foldX env vals x))] (by kernel_rfl) (by kernel_rfl) ?_
        (repeat first|refine WA.s rfl ?_|refine WA.r rfl rfl ?_|refine WA.p rfl ?_)
        refine WA.x rfl (by show (0 : Int) ≤ (i : Nat); omega) (encXl_at hx) (encX_eq x) rfl ?_
        (repeat first|refine WA.s rfl ?_|refine WA.r rfl rfl ?_|refine WA.p rfl ?_)
        refine WA.c rfl rfl ihx (.sub .refl) ?_
        refine WA.lit rfl rfl rfl rfl rfl rfl rfl fun bw => ?_
        refine WA.nil (l := [.row 6 (.slice (some ⟨bw, 0, none⟩) 1 1) [cellsX (foldX env vals x)]]) rfl ?_
        refine A.freezeRow 49 rfl ?_
        refine A.entsEq (Λ' := [.tail ty27.size z, .box _ _, .box _ _, .box _ _]) rfl ?_
        refine A.append rfl rfl rfl rfl rfl rfl rfl rfl rfl rfl rfl rfl rfl rfl (by show ((encXl (foldXl env vals (e.l.take i))).length + 1) * 6 ≤ _; rw [encXl_len, foldXl_len, List.length_take]; omega) fun z' => ?_
        refine A.valE 50 rfl (x' := .sl 6 (encXl (foldXl env vals (e.l.take (i + 1)))) (some z')) (by rw [hfa]; rfl) ?_
        (repeat first|refine A.s rfl ?_|refine A.r rfl rfl ?_|refine A.w rfl rfl ?_|refine A.p rfl ?_|refine A.b rfl fun bx=>?_|refine A.t rfl fun bl=>?_)
        refine A.valE 11 rfl (x' := AI ((i + 1 : Nat) : Int)) eNx ?_
        refine A.sub (by repeat (first | exact trivial | refine ⟨⟨_, rfl, .refl⟩, ?_⟩)) (ih (i + 1, z') (by show i + 1 ≤ _; omega) (by show _ - (i + 1) < _ - i; omega))
      · simp at hc
        have hie : i = e.l.length := by omega
        subst hie
        (repeat first|refine A.s rfl ?_|refine A.r rfl rfl ?_|refine A.w rfl rfl ?_|refine A.p rfl ?_|refine A.b rfl fun bx=>?_|refine A.t rfl fun bl=>?_); refine A.retC (Λ' := []) rfl rfl rfl rfl rfl (List.nil_sublist _) ⟨?_, rfl⟩
        rw [List.take_length]
        exact (by repeat (first | exact Sb.refl | exact SbL.refl | refine SbL.cons ?_ ?_ | exact Sb.nil | exact Sb.own1 | refine Sb.own ?_ | refine Sb.ag ?_ | refine Sb.tp ?_))
theorem Fold14_p (env : List SP) (ok : SpecsOk env) (e : XE) (hw : wfX e) (hv : validX e) : Pure Tryz.prog gs0 10 [encX e, specsA env] (.tp [encX (foldE env e), AI 0]) := by
  have hmy := may10_p e hw
  have hvs := values14_p env ok
  have hok := valsP_ok env ok env.length (Nat.le_refl _)
  rw [List.take_length] at hok
  have hfp := fold14_p env (valsP env env.length) hok (valsP_zero env _) (htX e) e (Nat.le_refl _) hw hv.1
  have he := encX_eq (foldX env (valsP env env.length) e)
  rw [he] at hfp
  show Pure _ _ _ _ (.tp [encX (foldX env (valsP env env.length) e), AI 0])
  rw [he]
  rw [decide_eq_true hv] at hmy
  rw [encX_eq e] at hmy hfp ⊢
  refine Pure.of (S := tt) (fn := Tryz.f10) (n := 15) tt_ok Tryz.func10 rfl rfl rfl rfl fun w0 h0 F hgs => ?_
  (repeat first|refine A.s rfl ?_|refine A.r rfl rfl ?_|refine A.w rfl rfl ?_|refine A.p rfl ?_|refine A.b rfl fun bx=>?_|refine A.t rfl fun bl=>?_); refine A.c rfl hmy .refl ?_
  (repeat first|refine A.s rfl ?_|refine A.r rfl rfl ?_|refine A.w rfl rfl ?_|refine A.p rfl ?_|refine A.b rfl fun bx=>?_|refine A.t rfl fun bl=>?_)
  refine A.draw 5 [0, 1, 2, 3, 4] noPubs [(3, valsA (valsP env env.length)), (4, cellsX (foldX env (valsP env env.length) e))] (by kernel_rfl) (by kernel_rfl) ?_
  (repeat first|refine WA.s rfl ?_|refine WA.r rfl rfl ?_|refine WA.p rfl ?_)
  refine WA.c rfl rfl hvs (.sub .refl) ?_
  refine WA.c rfl rfl hfp (.sub .refl) ?_
  refine WA.nil (l := []) rfl ?_
  (repeat first|refine A.s rfl ?_|refine A.r rfl rfl ?_|refine A.w rfl rfl ?_|refine A.p rfl ?_|refine A.b rfl fun bx=>?_|refine A.t rfl fun bl=>?_)
  refine A.retN (Λ' := []) rfl rfl (ResA.cell rfl rfl rfl (ResA.tmp rfl ResA.nil)) (List.nil_sublist _) ⟨?_, rfl⟩
  exact .refl
theorem Fold14Bad_p (env : List SP) (e : XE) (hw : wfX e) (hv : ¬ validX e) : Pure Tryz.prog gs0 10 [encX e, specsA env] (.tp [encX ⟨0, 0, 0, 0, [], []⟩, AI 2]) := by
  have hmy := may10_p e hw
  rw [decide_eq_false hv] at hmy
  rw [encX_eq ⟨0, 0, 0, 0, [], []⟩]
  rw [encX_eq e] at hmy ⊢
  refine Pure.of (S := tt) (fn := Tryz.f10) (n := 15) tt_ok Tryz.func10 rfl rfl rfl rfl fun w0 h0 F hgs => ?_
  (repeat first|refine A.s rfl ?_|refine A.r rfl rfl ?_|refine A.w rfl rfl ?_|refine A.p rfl ?_|refine A.b rfl fun bx=>?_|refine A.t rfl fun bl=>?_); refine A.c rfl hmy .refl ?_
  (repeat first|refine A.s rfl ?_|refine A.r rfl rfl ?_|refine A.w rfl rfl ?_|refine A.p rfl ?_|refine A.b rfl fun bx=>?_|refine A.t rfl fun bl=>?_)
  refine A.retN (Λ' := []) rfl rfl (ResA.cell rfl rfl rfl (ResA.tmp rfl ResA.nil)) (List.nil_sublist _) ⟨?_, rfl⟩
  exact (by repeat (first | exact Sb.refl | exact SbL.refl | refine SbL.cons ?_ ?_ | exact Sb.nil | exact Sb.own1 | refine Sb.own ?_ | refine Sb.ag ?_ | refine Sb.tp ?_))
theorem folds_law (m : Int) (env : List SP) (hb : env.length ≤ 281474976710656) (hd : ∀ x, x ∈ env → i64 x.dim) (he : ∀ x, x ∈ env → wfX x.e) (e : XE) (hw : wfX e) : Pure Tryz.prog (gsM m) 4 [encX e, specsA env] (AB true) := by
  have g1 := (great14_p env hb).any (gs := gsM m)
  rw [encX_eq e]
  cases hg : great14 env with
  | true =>
    rw [hg] at g1
    refine Pure.of (S := tt) (fn := Tryz.f4) (n := 35) tt_ok Tryz.func4 rfl rfl rfl rfl fun w0 h0 F hgs => ?_
    (repeat first|refine A.s rfl ?_|refine A.r rfl rfl ?_|refine A.w rfl rfl ?_|refine A.p rfl ?_|refine A.b rfl fun bx=>?_|refine A.t rfl fun bl=>?_); refine A.c rfl g1 .refl ?_
    ((repeat first|refine A.s rfl ?_|refine A.r rfl rfl ?_|refine A.w rfl rfl ?_|refine A.p rfl ?_|refine A.b rfl fun bx=>?_|refine A.t rfl fun bl=>?_); refine A.c rfl (awake_p m) .refl ?_; (repeat first|refine A.s rfl ?_|refine A.r rfl rfl ?_|refine A.w rfl rfl ?_|refine A.p rfl ?_|refine A.b rfl fun bx=>?_|refine A.t rfl fun bl=>?_); refine A.ret1 (Λ' := []) rfl rfl rfl (List.nil_sublist _) ⟨?_, rfl⟩; exact .refl)
  | false =>
  rw [hg] at g1
  obtain ⟨ok, _⟩ := great_ok hg hd he
  have key : ∀ (x : XE) (hx : wfX x) (c : Int), Pure Tryz.prog (gsM m) 9 [encX e, specsA env] (.tp [encX x, AI c]) → Pure Tryz.prog (gsM m) 10 [encX e, specsA env] (.tp [encX x, AI c]) →
      Pure Tryz.prog (gsM m) 4 [cellsX e, specsA env] (AB true) := fun x hx c f1 f2 => by
    have s1 := (same10_p _ x x (Nat.le_refl _) hx).any (gs := gsM m)
    rw [eqX_refl] at s1
    rw [encX_eq e, encX_eq x] at f1 f2
    rw [encX_eq x] at s1
    refine Pure.of (S := tt) (fn := Tryz.f4) (n := 35) tt_ok Tryz.func4 rfl rfl rfl rfl fun w0 h0 F hgs => ?_
    (repeat first|refine A.s rfl ?_|refine A.r rfl rfl ?_|refine A.w rfl rfl ?_|refine A.p rfl ?_|refine A.b rfl fun bx=>?_|refine A.t rfl fun bl=>?_); refine A.c rfl g1 .refl ?_
    (repeat first|refine A.s rfl ?_|refine A.r rfl rfl ?_|refine A.w rfl rfl ?_|refine A.p rfl ?_|refine A.b rfl fun bx=>?_|refine A.t rfl fun bl=>?_); refine A.c rfl f1 .refl ?_
    (repeat first|refine A.s rfl ?_|refine A.r rfl rfl ?_|refine A.w rfl rfl ?_|refine A.p rfl ?_|refine A.b rfl fun bx=>?_|refine A.t rfl fun bl=>?_); refine A.c rfl f2 .refl ?_
    (repeat first|refine A.s rfl ?_|refine A.r rfl rfl ?_|refine A.w rfl rfl ?_|refine A.p rfl ?_|refine A.b rfl fun bx=>?_|refine A.t rfl fun bl=>?_); refine A.c rfl s1 .refl ?_
    (repeat first|refine A.s rfl ?_|refine A.r rfl rfl ?_|refine A.w rfl rfl ?_|refine A.p rfl ?_|refine A.b rfl fun bx=>?_|refine A.t rfl fun bl=>?_)
    refine A.gT rfl (beq_self_eq_true _) ?_
    ((repeat first|refine A.s rfl ?_|refine A.r rfl rfl ?_|refine A.w rfl rfl ?_|refine A.p rfl ?_|refine A.b rfl fun bx=>?_|refine A.t rfl fun bl=>?_); refine A.c rfl (awake_p m) .refl ?_; (repeat first|refine A.s rfl ?_|refine A.r rfl rfl ?_|refine A.w rfl rfl ?_|refine A.p rfl ?_|refine A.b rfl fun bx=>?_|refine A.t rfl fun bl=>?_); refine A.ret1 (Λ' := []) rfl rfl rfl (List.nil_sublist _) ⟨?_, rfl⟩; exact .refl)
  by_cases hv : validX e
  · have hok := valsP_ok env ok env.length (Nat.le_refl _)
    rw [List.take_length] at hok
    exact key (foldE env e) (foldX_wf env _ hok e hw) 0 (Fold_p m env ok e hw hv) (Fold14_p env ok e hw hv).any
  · exact key _ (by simp [wfX, wfXl, u8, i32]) 2 (FoldBad_p m env e hw hv) (Fold14Bad_p env e hw hv).any
end Go.Proofs.YtlnbmocgnkjlfaaGreat
