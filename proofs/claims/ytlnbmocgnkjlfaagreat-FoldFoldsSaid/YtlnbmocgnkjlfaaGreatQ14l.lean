/-
  Layer 14: Fold.
-/
import Derived.Test.YtlnbmocgnkjlfaaGreatQ14m
import Derived.Test.YtlnbmocgnkjlfaaGreatLd

namespace Go.Proofs.YtlnbmocgnkjlfaaGreat
open Go Go.Tp
set_option linter.unusedVariables false
set_option linter.unusedSimpArgs false
set_option maxRecDepth 100000
set_option maxHeartbeats 4000000

abbrev zeroX : AV := .ag [AU8 0, AU8 0, AU8 0, AI32 0, .v (.string ⟨#[]⟩), .v (.slice none 0 0)]
/-- a row that fills with folded parts -/
def rowX (env : List SP) (vals : List (Int × Bool)) (l : List XE) (i : Nat) : List AV := ((foldXl env vals l).map encX).take i ++ List.replicate (l.length - i) zeroX
theorem rowX_len (env : List SP) (vals : List (Int × Bool)) (l : List XE) {i : Nat} (h : i ≤ l.length) : (rowX env vals l i).length = l.length := by
  rw [rowX, List.length_append, List.length_take, List.length_map, foldXl_len, List.length_replicate]; omega
theorem rowX_set (env : List SP) (vals : List (Int × Bool)) (l : List XE) {i : Nat} {x : XE} (h : l[i]? = some x) : (rowX env vals l i).set i (encX (foldX env vals x)) = rowX env vals l (i + 1) := by
  have hi : i < l.length := by
    rcases Nat.lt_or_ge i l.length with h1 | h1
    · exact h1
    · rw [List.getElem?_eq_none h1] at h; cases h
  have ht : (((foldXl env vals l).map encX).take i).length = i := by rw [List.length_take, List.length_map, foldXl_len]; omega
  have hx : ((foldXl env vals l).map encX)[i]? = some (encX (foldX env vals x)) := map_at (by rw [foldXl_map]; exact map_at h)
  unfold rowX
  rw [List.set_append_right _ _ (by omega), ht, Nat.sub_self, show l.length - i = (l.length - (i + 1)) + 1 by omega, List.replicate_succ, List.set_cons_zero, List.take_add_one, hx, List.append_assoc]
  rfl
theorem rowX_end (env : List SP) (vals : List (Int × Bool)) (l : List XE) : rowX env vals l l.length = encXl (foldXl env vals l) := by
  rw [rowX, Nat.sub_self, List.replicate_zero, List.append_nil, List.take_of_length_le (by rw [List.length_map, foldXl_len]; exact Nat.le_refl _), encXl_map]
theorem fold_p (m : Int) (env : List SP) (vals : List (Int × Bool)) (ok : EnvOk env vals) : ∀ (N : Nat) (e : XE), htX e ≤ N → wfX e → fineX e = true → Pure Tryz.prog (gsM m) 26 [scopeA env vals, encX e] (encX (foldX env vals e))
  | 0, e, hn, _, _ => by have := htX_pos e; omega
  | N + 1, e, hn, hw, hf => by
    have hvp := (value_p env vals ok (htX e) e (Nat.le_refl _) hw hf).any (gs := gsM m)
    have hpr : valX env vals e = ((valX env vals e).1, (valX env vals e).2) := rfl
    have hli : (valX env vals e).2 = true → Pure Tryz.prog (gsM m) 40 [scopeA env vals, encX e] (AU8 (litK env e)) := fun hv =>
      (literal_p env vals e ok.size ok.names (fun h4 => by
        rw [valX_eq, if_neg (by omega), if_pos h4] at hv
        split at hv
        · assumption
        · cases hv)).any
    have hmy := emay_p m (litX env vals e) (litX_wf (valX_in env vals ok e hw))
    have hlx : encX (litX env vals e) = .ag [AU8 (litK env e), AU8 0, AU8 0, AI32 (valX env vals e).1, .v (.string ⟨#[]⟩), .sl 6 [] none] := by rw [encX_eq]; rfl
    have hll : e.l.length ≤ 2 := by
      have h1 := hf
      rw [fineX_eq, Bool.and_eq_true] at h1
      have h2 := shape_l e h1.1
      split at h2
      · omega
      · split at h2 <;> omega
    have hlen : ((encXl e.l).length : Int) = e.l.length := by rw [encXl_len]
    have ih0 := fun x (hx : x ∈ e.l) => fold_p m env vals ok N x (by have := htXl_le hx; have := htX_eq e; omega) (wfXl_mem (wfX_l hw) x hx) (fineXl_mem (by rw [fineX_eq] at hf; rw [Bool.and_eq_true] at hf; exact hf.2) x hx)
    rw [hlx] at hmy
    have eNx : ∀ i : Nat, i < e.l.length → AV.v (.int .i64 (IntKind.i64.wrap ((i : Int) + 1))) = AI ((i + 1 : Nat) : Int) := fun i hi => inc_eq i (by omega)
    rw [encX_eq e] at hvp hli ⊢
    by_cases hv : (valX env vals e).2 = true
    · have hli := hli hv
      rw [hpr, hv] at hvp
      by_cases hlv : validX (litX env vals e)
      · rw [foldX_eq, if_pos ⟨hv, hlv⟩, hlx]
        refine Pure.of (S := tt) (fn := Tryz.f26) (n := 46) tt_ok Tryz.func26 rfl rfl rfl rfl fun w0 h0 F hgs => ?_
        (repeat first|refine A.s rfl ?_|refine A.r rfl rfl ?_|refine A.w rfl rfl ?_|refine A.p rfl ?_|refine A.b rfl fun bx=>?_|refine A.t rfl fun bl=>?_)
        refine A.c rfl hvp .refl ?_
        (repeat first|refine A.s rfl ?_|refine A.r rfl rfl ?_|refine A.w rfl rfl ?_|refine A.p rfl ?_|refine A.b rfl fun bx=>?_|refine A.t rfl fun bl=>?_)
        refine A.draw 7 [0, 1, 3, 4, 6, 2, 5] noPubs [(2, AU8 (litK env e))] (by kernel_rfl) (by kernel_rfl) ?_
        (repeat first|refine WA.s rfl ?_|refine WA.r rfl rfl ?_|refine WA.p rfl ?_|refine WA.step rfl ?_|refine WA.v rfl rfl ?_)
        refine WA.alloc rfl rfl rfl rfl rfl rfl rfl rfl fun b6 => ?_
        (repeat first|refine WA.s rfl ?_|refine WA.r rfl rfl ?_|refine WA.p rfl ?_|refine WA.step rfl ?_|refine WA.v rfl rfl ?_)
        refine WA.c rfl rfl hli (.sub .refl) ?_
        (repeat first|refine WA.s rfl ?_|refine WA.r rfl rfl ?_|refine WA.p rfl ?_|refine WA.step rfl ?_|refine WA.v rfl rfl ?_)
        refine WA.nil (l := [.box b6 zeroX]) rfl ?_
        (repeat first|refine A.s rfl ?_|refine A.r rfl rfl ?_|refine A.w rfl rfl ?_|refine A.p rfl ?_|refine A.b rfl fun bx=>?_|refine A.t rfl fun bl=>?_)
        refine A.c rfl hmy (by repeat (first | exact Sb.refl | exact SbL.refl | refine SbL.cons ?_ ?_ | exact Sb.nil | exact Sb.own1 | refine Sb.own ?_ | refine Sb.ag ?_ | refine Sb.tp ?_)) ?_
        (repeat first|refine A.s rfl ?_|refine A.r rfl rfl ?_|refine A.w rfl rfl ?_|refine A.p rfl ?_|refine A.b rfl fun bx=>?_|refine A.t rfl fun bl=>?_)
        refine A.gT rfl (decide_eq_true hlv) ?_
        (repeat first|refine A.s rfl ?_|refine A.r rfl rfl ?_|refine A.w rfl rfl ?_|refine A.p rfl ?_|refine A.b rfl fun bx=>?_|refine A.t rfl fun bl=>?_)
        refine A.retC (Λ' := []) rfl rfl rfl rfl rfl (List.nil_sublist _) ⟨?_, rfl⟩; exact (by repeat (first | exact Sb.refl | exact SbL.refl | refine SbL.cons ?_ ?_ | exact Sb.nil | exact Sb.own1 | refine Sb.own ?_ | refine Sb.ag ?_ | refine Sb.tp ?_))
      · rw [foldX_eq, if_neg (fun h => hlv h.2), encX_eq]
        refine Pure.of (S := tt) (fn := Tryz.f26) (n := 46) tt_ok Tryz.func26 rfl rfl rfl rfl fun w0 h0 F hgs => ?_
        (repeat first|refine A.s rfl ?_|refine A.r rfl rfl ?_|refine A.w rfl rfl ?_|refine A.p rfl ?_|refine A.b rfl fun bx=>?_|refine A.t rfl fun bl=>?_)
        refine A.c rfl hvp .refl ?_
        (repeat first|refine A.s rfl ?_|refine A.r rfl rfl ?_|refine A.w rfl rfl ?_|refine A.p rfl ?_|refine A.b rfl fun bx=>?_|refine A.t rfl fun bl=>?_)
        refine A.draw 7 [0, 1, 3, 4, 6, 2, 5] noPubs [(2, AU8 (litK env e))] (by kernel_rfl) (by kernel_rfl) ?_
        (repeat first|refine WA.s rfl ?_|refine WA.r rfl rfl ?_|refine WA.p rfl ?_|refine WA.step rfl ?_|refine WA.v rfl rfl ?_)
        refine WA.alloc rfl rfl rfl rfl rfl rfl rfl rfl fun b6 => ?_
        (repeat first|refine WA.s rfl ?_|refine WA.r rfl rfl ?_|refine WA.p rfl ?_|refine WA.step rfl ?_|refine WA.v rfl rfl ?_)
        refine WA.c rfl rfl hli (.sub .refl) ?_
        (repeat first|refine WA.s rfl ?_|refine WA.r rfl rfl ?_|refine WA.p rfl ?_|refine WA.step rfl ?_|refine WA.v rfl rfl ?_)
        refine WA.nil (l := [.box b6 zeroX]) rfl ?_
        (repeat first|refine A.s rfl ?_|refine A.r rfl rfl ?_|refine A.w rfl rfl ?_|refine A.p rfl ?_|refine A.b rfl fun bx=>?_|refine A.t rfl fun bl=>?_)
        refine A.c rfl hmy (by repeat (first | exact Sb.refl | exact SbL.refl | refine SbL.cons ?_ ?_ | exact Sb.nil | exact Sb.own1 | refine Sb.own ?_ | refine Sb.ag ?_ | refine Sb.tp ?_)) ?_
        (repeat first|refine A.s rfl ?_|refine A.r rfl rfl ?_|refine A.w rfl rfl ?_|refine A.p rfl ?_|refine A.b rfl fun bx=>?_|refine A.t rfl fun bl=>?_)
        refine A.gF rfl (decide_eq_false hlv) ?_
        (repeat first|refine A.s rfl ?_|refine A.r rfl rfl ?_|refine A.w rfl rfl ?_|refine A.p rfl ?_|refine A.b rfl fun bx=>?_|refine A.t rfl fun bl=>?_)
        refine A.valE 26 rfl (x' := AI (e.l.length : Nat)) (ai_eq hlen) ?_
        refine A.makeV rfl rfl rfl rfl rfl rfl rfl rfl rfl rfl rfl rfl (by omega) (by show (48 : Int) * _ ≤ _; omega) (by omega) fun a c hca => ?_
        (repeat first|refine A.s rfl ?_|refine A.r rfl rfl ?_|refine A.w rfl rfl ?_|refine A.p rfl ?_|refine A.b rfl fun bx=>?_|refine A.t rfl fun bl=>?_)
        refine A.valE 30 rfl (x' := AI (e.l.length : Nat)) (ai_eq hlen) ?_
        refine A.less (Λ' := [.row 6 (.slice a e.l.length c) (List.replicate e.l.length zeroX), .box _ zeroX, .box _ (cellsX e), .box _ (.ag [specsA env, valsA vals])]) (by repeat (first | exact List.Sublist.refl _ | apply List.Sublist.cons_cons | apply List.Sublist.cons)) ?_
        refine A.entsEq (Λ' := [.row 6 (.slice a e.l.length c) (rowX env vals e.l 0), .box _ zeroX, .box _ (cellsX e), .box _ (.ag [specsA env, valsA vals])]) (by rw [rowX, List.take_zero, List.nil_append, Nat.sub_zero]) ?_
        refine A.keep [2, 3, 4, 7, 29, 30, 31] rfl ?_
        refine A.loopP (ι := Nat) (fun i => (⟨[(2, .v (.pointer (some ⟨_, 0, none⟩))), (3, .v (.pointer (some ⟨_, 0, none⟩))), (4, .v (.pointer (some ⟨_, 0, none⟩))), (7, .ms (.slice a e.l.length c) 6 e.l.length), (29, .sl 6 (encXl e.l) none), (30, AI (e.l.length : Nat)), (31, AI (i : Int))], []⟩, [.row 6 (.slice a e.l.length c) (rowX env vals e.l i), .box _ zeroX, .box _ (cellsX e), .box _ (.ag [specsA env, valsA vals])]))
          (fun i => i ≤ e.l.length) (fun i => e.l.length - i) 0 (Nat.zero_le _) rfl fun i hi ih => ?_
        (repeat first|refine A.s rfl ?_|refine A.r rfl rfl ?_|refine A.w rfl rfl ?_|refine A.p rfl ?_|refine A.b rfl fun bx=>?_|refine A.t rfl fun bl=>?_|refine A.step rfl ?_|refine A.v rfl rfl ?_)
        refine A.cond rfl (fun hc => ?_) (fun hc => ?_)
        · simp at hc
          refine Exists.elim (at_exN (l := e.l) (i := i) hc) fun x hx => ?_
          have ihx := ih0 x (List.mem_of_getElem? hx)
          (repeat first|refine A.s rfl ?_|refine A.r rfl rfl ?_|refine A.w rfl rfl ?_|refine A.p rfl ?_|refine A.b rfl fun bx=>?_|refine A.t rfl fun bl=>?_)
          refine A.x rfl (by omega) (encXl_at hx) (encX_eq x) rfl ?_
          (repeat first|refine A.s rfl ?_|refine A.r rfl rfl ?_|refine A.w rfl rfl ?_|refine A.p rfl ?_|refine A.b rfl fun bx=>?_|refine A.t rfl fun bl=>?_)
          have hset := rowX_set env vals e.l hx
          rw [encX_eq (foldX env vals x)] at ihx hset
          rw [encX_eq x] at ihx
          refine A.c rfl ihx .refl ?_
          refine A.indexRow rfl rfl rfl rfl rfl rfl rfl rfl (by omega) (by rw [rowX_len env vals e.l hi]; omega) rfl ?_
          refine A.storeRow rfl rfl rfl rfl rfl rfl rfl rfl rfl (by rw [rowX_len env vals e.l hi]; omega) (xs' := rowX env vals e.l (i + 1)) hset ?_
          (repeat first|refine A.s rfl ?_|refine A.r rfl rfl ?_|refine A.w rfl rfl ?_|refine A.p rfl ?_|refine A.b rfl fun bx=>?_|refine A.t rfl fun bl=>?_)
          refine A.valE 31 rfl (x' := AI ((i + 1 : Nat) : Int)) (eNx i hc) ?_
          refine A.less (Λ' := [.row 6 (.slice a e.l.length c) (rowX env vals e.l (i + 1)), .box _ zeroX, .box _ (cellsX e), .box _ (.ag [specsA env, valsA vals])]) (by repeat (first | exact List.Sublist.refl _ | apply List.Sublist.cons_cons | apply List.Sublist.cons)) ?_
          refine A.sub (by repeat (first | exact trivial | refine ⟨⟨_, rfl, .refl⟩, ?_⟩)) (ih (i + 1) (by omega) (by omega))
        · simp at hc
          have : i = e.l.length := by omega
          subst this
          (repeat first|refine A.s rfl ?_|refine A.r rfl rfl ?_|refine A.w rfl rfl ?_|refine A.p rfl ?_|refine A.b rfl fun bx=>?_|refine A.t rfl fun bl=>?_)
          refine A.entsEq (Λ' := [.row 6 (.slice a e.l.length c) (encXl (foldXl env vals e.l)), .box _ _, .box _ _, .box _ _]) (by rw [rowX_end]) ?_
          refine A.freezeRowV 4 (.slice a e.l.length c) (x' := .ag [AU8 e.kind, AU8 e.oper, AU8 e.to, AI32 e.n, AS e.s, .sl 6 (encXl (foldXl env vals e.l)) none]) rfl (by repeat (first | exact Fz.ms | apply Fz.ag | apply FzL.cons | exact FzL.sub .refl | exact Fz.sub .refl)) ?_
          (repeat first|refine A.s rfl ?_|refine A.r rfl rfl ?_|refine A.w rfl rfl ?_|refine A.p rfl ?_|refine A.b rfl fun bx=>?_|refine A.t rfl fun bl=>?_); refine A.retC (Λ' := []) rfl rfl rfl rfl rfl (List.nil_sublist _) ⟨?_, rfl⟩; exact .refl
    · have hv : (valX env vals e).2 = false := by simpa using hv
      rw [hpr, hv] at hvp
      rw [foldX_eq, if_neg (fun h => by have h1 := h.1; rw [hv] at h1; cases h1), encX_eq]
      refine Pure.of (S := tt) (fn := Tryz.f26) (n := 46) tt_ok Tryz.func26 rfl rfl rfl rfl fun w0 h0 F hgs => ?_
      (repeat first|refine A.s rfl ?_|refine A.r rfl rfl ?_|refine A.w rfl rfl ?_|refine A.p rfl ?_|refine A.b rfl fun bx=>?_|refine A.t rfl fun bl=>?_)
      refine A.c rfl hvp .refl ?_
      (repeat first|refine A.s rfl ?_|refine A.r rfl rfl ?_|refine A.w rfl rfl ?_|refine A.p rfl ?_|refine A.b rfl fun bx=>?_|refine A.t rfl fun bl=>?_)
      refine A.valE 26 rfl (x' := AI (e.l.length : Nat)) (ai_eq hlen) ?_
      refine A.makeV rfl rfl rfl rfl rfl rfl rfl rfl rfl rfl rfl rfl (by omega) (by show (48 : Int) * _ ≤ _; omega) (by omega) fun a c hca => ?_
      (repeat first|refine A.s rfl ?_|refine A.r rfl rfl ?_|refine A.w rfl rfl ?_|refine A.p rfl ?_|refine A.b rfl fun bx=>?_|refine A.t rfl fun bl=>?_)
      refine A.valE 30 rfl (x' := AI (e.l.length : Nat)) (ai_eq hlen) ?_
      refine A.less (Λ' := [.row 6 (.slice a e.l.length c) (List.replicate e.l.length zeroX), .box _ zeroX, .box _ (cellsX e), .box _ (.ag [specsA env, valsA vals])]) (by repeat (first | exact List.Sublist.refl _ | apply List.Sublist.cons_cons | apply List.Sublist.cons)) ?_
      refine A.entsEq (Λ' := [.row 6 (.slice a e.l.length c) (rowX env vals e.l 0), .box _ zeroX, .box _ (cellsX e), .box _ (.ag [specsA env, valsA vals])]) (by rw [rowX, List.take_zero, List.nil_append, Nat.sub_zero]) ?_
      refine A.keep [2, 3, 4, 7, 29, 30, 31] rfl ?_
      refine A.loopP (ι := Nat) (fun i => (⟨[(2, .v (.pointer (some ⟨_, 0, none⟩))), (3, .v (.pointer (some ⟨_, 0, none⟩))), (4, .v (.pointer (some ⟨_, 0, none⟩))), (7, .ms (.slice a e.l.length c) 6 e.l.length), (29, .sl 6 (encXl e.l) none), (30, AI (e.l.length : Nat)), (31, AI (i : Int))], []⟩, [.row 6 (.slice a e.l.length c) (rowX env vals e.l i), .box _ zeroX, .box _ (cellsX e), .box _ (.ag [specsA env, valsA vals])]))
        (fun i => i ≤ e.l.length) (fun i => e.l.length - i) 0 (Nat.zero_le _) rfl fun i hi ih => ?_
      (repeat first|refine A.s rfl ?_|refine A.r rfl rfl ?_|refine A.w rfl rfl ?_|refine A.p rfl ?_|refine A.b rfl fun bx=>?_|refine A.t rfl fun bl=>?_|refine A.step rfl ?_|refine A.v rfl rfl ?_)
      refine A.cond rfl (fun hc => ?_) (fun hc => ?_)
      · simp at hc
        refine Exists.elim (at_exN (l := e.l) (i := i) hc) fun x hx => ?_
        have ihx := ih0 x (List.mem_of_getElem? hx)
        (repeat first|refine A.s rfl ?_|refine A.r rfl rfl ?_|refine A.w rfl rfl ?_|refine A.p rfl ?_|refine A.b rfl fun bx=>?_|refine A.t rfl fun bl=>?_)
        refine A.x rfl (by omega) (encXl_at hx) (encX_eq x) rfl ?_
        (repeat first|refine A.s rfl ?_|refine A.r rfl rfl ?_|refine A.w rfl rfl ?_|refine A.p rfl ?_|refine A.b rfl fun bx=>?_|refine A.t rfl fun bl=>?_)
        have hset := rowX_set env vals e.l hx
        rw [encX_eq (foldX env vals x)] at ihx hset
        rw [encX_eq x] at ihx
        refine A.c rfl ihx .refl ?_
        refine A.indexRow rfl rfl rfl rfl rfl rfl rfl rfl (by omega) (by rw [rowX_len env vals e.l hi]; omega) rfl ?_
        refine A.storeRow rfl rfl rfl rfl rfl rfl rfl rfl rfl (by rw [rowX_len env vals e.l hi]; omega) (xs' := rowX env vals e.l (i + 1)) hset ?_
        (repeat first|refine A.s rfl ?_|refine A.r rfl rfl ?_|refine A.w rfl rfl ?_|refine A.p rfl ?_|refine A.b rfl fun bx=>?_|refine A.t rfl fun bl=>?_)
        refine A.valE 31 rfl (x' := AI ((i + 1 : Nat) : Int)) (eNx i hc) ?_
        refine A.less (Λ' := [.row 6 (.slice a e.l.length c) (rowX env vals e.l (i + 1)), .box _ zeroX, .box _ (cellsX e), .box _ (.ag [specsA env, valsA vals])]) (by repeat (first | exact List.Sublist.refl _ | apply List.Sublist.cons_cons | apply List.Sublist.cons)) ?_
        refine A.sub (by repeat (first | exact trivial | refine ⟨⟨_, rfl, .refl⟩, ?_⟩)) (ih (i + 1) (by omega) (by omega))
      · simp at hc
        have : i = e.l.length := by omega
        subst this
        (repeat first|refine A.s rfl ?_|refine A.r rfl rfl ?_|refine A.w rfl rfl ?_|refine A.p rfl ?_|refine A.b rfl fun bx=>?_|refine A.t rfl fun bl=>?_)
        refine A.entsEq (Λ' := [.row 6 (.slice a e.l.length c) (encXl (foldXl env vals e.l)), .box _ _, .box _ _, .box _ _]) (by rw [rowX_end]) ?_
        refine A.freezeRowV 4 (.slice a e.l.length c) (x' := .ag [AU8 e.kind, AU8 e.oper, AU8 e.to, AI32 e.n, AS e.s, .sl 6 (encXl (foldXl env vals e.l)) none]) rfl (by repeat (first | exact Fz.ms | apply Fz.ag | apply FzL.cons | exact FzL.sub .refl | exact Fz.sub .refl)) ?_
        (repeat first|refine A.s rfl ?_|refine A.r rfl rfl ?_|refine A.w rfl rfl ?_|refine A.p rfl ?_|refine A.b rfl fun bx=>?_|refine A.t rfl fun bl=>?_); refine A.retC (Λ' := []) rfl rfl rfl rfl rfl (List.nil_sublist _) ⟨?_, rfl⟩; exact .refl
/-- an expression folded in an environment; and how -/
def foldE (env : List SP) (e : XE) : XE := foldX env (valsP env env.length) e
theorem Fold_p (m : Int) (env : List SP) (ok : SpecsOk env) (e : XE) (hw : wfX e) (hv : validX e) : Pure Tryz.prog (gsM m) 9 [encX e, specsA env] (.tp [encX (foldE env e), AI 0]) := by
  have hmy := emay_p m e hw
  have hwi := within_p m env ok
  have hok := valsP_ok env ok env.length (Nat.le_refl _)
  rw [List.take_length] at hok
  have hfp := fold_p m env (valsP env env.length) hok (htX e) e (Nat.le_refl _) hw hv.1
  have he := encX_eq (foldX env (valsP env env.length) e)
  rw [he] at hfp
  show Pure _ _ _ _ (.tp [encX (foldX env (valsP env env.length) e), AI 0])
  rw [he]
  rw [encX_eq e] at hmy hfp ⊢
  refine Pure.of (S := tt) (fn := Tryz.f9) (n := 14) tt_ok Tryz.func9 rfl rfl rfl rfl fun w0 h0 F hgs => ?_
  (repeat first|refine A.s rfl ?_|refine A.r rfl rfl ?_|refine A.w rfl rfl ?_|refine A.p rfl ?_|refine A.b rfl fun bx=>?_|refine A.t rfl fun bl=>?_)
  refine A.c rfl hmy .refl ?_
  (repeat first|refine A.s rfl ?_|refine A.r rfl rfl ?_|refine A.w rfl rfl ?_|refine A.p rfl ?_|refine A.b rfl fun bx=>?_|refine A.t rfl fun bl=>?_)
  refine A.valE 8 rfl (x' := AB false) (ab_eq (by simp [hv])) ?_
  (repeat first|refine A.s rfl ?_|refine A.r rfl rfl ?_|refine A.w rfl rfl ?_|refine A.p rfl ?_|refine A.b rfl fun bx=>?_|refine A.t rfl fun bl=>?_)
  refine A.draw 3 [0, 2, 1] noPubs [(1, scopeA env (valsP env env.length))] (by kernel_rfl) (by kernel_rfl) ?_
  (repeat first|refine WA.s rfl ?_|refine WA.r rfl rfl ?_|refine WA.p rfl ?_|refine WA.step rfl ?_|refine WA.v rfl rfl ?_)
  refine WA.c rfl rfl hwi (.sub .refl) ?_
  refine WA.nil (l := []) rfl ?_
  (repeat first|refine A.s rfl ?_|refine A.r rfl rfl ?_|refine A.w rfl rfl ?_|refine A.p rfl ?_|refine A.b rfl fun bx=>?_|refine A.t rfl fun bl=>?_)
  refine A.c rfl hfp .refl ?_
  (repeat first|refine A.s rfl ?_|refine A.r rfl rfl ?_|refine A.w rfl rfl ?_|refine A.p rfl ?_|refine A.b rfl fun bx=>?_|refine A.t rfl fun bl=>?_)
  refine A.retN (Λ' := []) rfl rfl (ResA.cell rfl rfl rfl (ResA.tmp rfl ResA.nil)) (List.nil_sublist _) ⟨?_, rfl⟩
  exact .refl
theorem FoldBad_p (m : Int) (env : List SP) (e : XE) (hw : wfX e) (hv : ¬ validX e) : Pure Tryz.prog (gsM m) 9 [encX e, specsA env] (.tp [encX ⟨0, 0, 0, 0, [], []⟩, AI 2]) := by
  have hmy := emay_p m e hw
  rw [encX_eq ⟨0, 0, 0, 0, [], []⟩]
  rw [encX_eq e] at hmy ⊢
  refine Pure.of (S := tt) (fn := Tryz.f9) (n := 14) tt_ok Tryz.func9 rfl rfl rfl rfl fun w0 h0 F hgs => ?_
  (repeat first|refine A.s rfl ?_|refine A.r rfl rfl ?_|refine A.w rfl rfl ?_|refine A.p rfl ?_|refine A.b rfl fun bx=>?_|refine A.t rfl fun bl=>?_)
  refine A.c rfl hmy .refl ?_
  (repeat first|refine A.s rfl ?_|refine A.r rfl rfl ?_|refine A.w rfl rfl ?_|refine A.p rfl ?_|refine A.b rfl fun bx=>?_|refine A.t rfl fun bl=>?_)
  refine A.valE 8 rfl (x' := AB true) (ab_eq (by simp [hv])) ?_
  (repeat first|refine A.s rfl ?_|refine A.r rfl rfl ?_|refine A.w rfl rfl ?_|refine A.p rfl ?_|refine A.b rfl fun bx=>?_|refine A.t rfl fun bl=>?_)
  refine A.retN (Λ' := []) rfl rfl (ResA.cell rfl rfl rfl (ResA.tmp rfl ResA.nil)) (List.nil_sublist _) ⟨?_, rfl⟩
  exact (by repeat (first | exact Sb.refl | exact SbL.refl | refine SbL.cons ?_ ?_ | exact Sb.nil | exact Sb.own1 | refine Sb.own ?_ | refine Sb.ag ?_ | refine Sb.tp ?_))
end Go.Proofs.YtlnbmocgnkjlfaaGreat
