/-
  Chapter 17: Put by the reference.
-/
import Derived.Test.YtbbainjecjdkmaaQ17j
import Derived.Test.YtbbainjecjdkmaaTqW

namespace Go.Proofs.Ytbbainjecjdkmaa
open Go Go.Tp
set_option linter.unusedVariables false
set_option linter.unusedSimpArgs false
set_option maxRecDepth 100000
set_option maxHeartbeats 4000000

theorem len_inc (hs : List (Value × List Int)) (p : Value × List Int) (h : hs.length ≤ 1073741824) : AV.v (.int .i64 (IntKind.i64.wrap ((hs.length : Nat) + 1 : Int))) = AI ((hs ++ [p]).length : Nat) := by
  rw [inc_eq hs.length (by omega)]; simp
theorem rows_snoc (hs : List (Value × List Int)) (z : Value) (r : List Int) : rowsH (hs ++ [(z, r)]) = rowsH hs ++ [(z, r.map AI32)] := by simp [rowsH]
theorem msL_snoc (sz : Nat) (hs : List (Value × List AV)) (z : Value) (l : List AV) : msL sz (hs ++ [(z, l)]) = msL sz hs ++ [.ms z sz l.length] := by simp [msL]
theorem rput_p (s : List (List Int)) (v i x : Int) (h1 : s.length ≤ 1073741823) (h2 : ∀ r, r ∈ s → r.length ≤ 35184372088832) :
    FunE Try.prog gs0 23 [rowsA s, AI v, AI i, AI32 x] [] (fun p : Value × List (Value × List Int) => .ms p.1 1 s.length) (fun p => [.rows 1 (rowsH p.2), .row 1 p.1 (msL 1 (rowsH p.2))]) (fun p => p.2.map Prod.snd = putM s v i x) := by
  unfold FunE
  have hl : ((s.map rowA).length : Int) = s.length := by rw [List.length_map]
  have hat := rat_p s v i
  refine Fun.of (S := tt) (fn := Try.f23) (n := 45) tt_ok Try.func23 rfl rfl rfl rfl fun w0 h0 F hgs => ?_
  (repeat first|refine A.s rfl ?_|refine A.r rfl rfl ?_|refine A.w rfl rfl ?_|refine A.p rfl ?_|refine A.b rfl fun bx=>?_|refine A.t rfl fun bl=>?_|refine A.step rfl ?_|refine A.v rfl rfl ?_)
  refine A.emptyRow 9 1 rfl fun z0 => ?_
  refine A.rows0 1 ?_
  refine A.keep [0, 1, 2, 3, 9, 10] rfl ?_
  refine A.loopP (ι := Value × List (Value × List Int)) (fun p => (⟨[(0, rowsA s), (1, AI v), (2, AI i), (3, AI32 x), (9, .ms p.1 1 p.2.length), (10, AI (p.2.length : Nat))], []⟩, [.rows 1 (rowsH p.2), .row 1 p.1 (msL 1 (rowsH p.2))]))
    (fun p => p.2.map Prod.snd = s.take p.2.length ∧ p.2.length ≤ s.length) (fun p => s.length - p.2.length) (z0, []) ⟨rfl, Nat.zero_le _⟩ rfl fun p hi ih => ?_
  obtain ⟨z, hs⟩ := p
  simp only at hi
  (repeat first|refine A.s rfl ?_|refine A.r rfl rfl ?_|refine A.w rfl rfl ?_|refine A.p rfl ?_|refine A.b rfl fun bx=>?_|refine A.t rfl fun bl=>?_|refine A.step rfl ?_|refine A.v rfl rfl ?_)
  refine A.cond rfl (fun hc => ?_) (fun hc => ?_)
  · simp at hc
    refine Exists.elim (at_exN (l := s) (i := hs.length) hc) fun r hr => ?_
    have hrl := h2 r (List.mem_of_getElem? hr)
    have eNx := len_inc hs
    (repeat first|refine A.s rfl ?_|refine A.r rfl rfl ?_|refine A.w rfl rfl ?_|refine A.p rfl ?_|refine A.b rfl fun bx=>?_|refine A.t rfl fun bl=>?_|refine A.step rfl ?_|refine A.v rfl rfl ?_)
    refine A.x rfl (by omega) (map_at hr) rfl rfl ?_
    (repeat first|refine A.s rfl ?_|refine A.r rfl rfl ?_|refine A.w rfl rfl ?_|refine A.p rfl ?_|refine A.b rfl fun bx=>?_|refine A.t rfl fun bl=>?_|refine A.step rfl ?_|refine A.v rfl rfl ?_)
    refine A.appendNewW rfl rfl rfl rfl rfl rfl rfl rfl rfl rfl rfl rfl rfl (by show (List.map AI32 _).length * 1 ≤ _; rw [List.length_map]; omega) (by show (List.map AI32 _).length * 1 * 4 ≤ _; rw [List.length_map]; omega) (fun x hx => by cases hx) (row_one _) fun z2 => ?_
    (repeat first|refine A.s rfl ?_|refine A.r rfl rfl ?_|refine A.w rfl rfl ?_|refine A.p rfl ?_|refine A.b rfl fun bx=>?_|refine A.t rfl fun bl=>?_|refine A.step rfl ?_|refine A.v rfl rfl ?_)
    have hm := rowsH_len hs
    refine A.appendRowE rfl rfl rfl rfl rfl rfl rfl rfl rfl rfl rfl rfl rfl rfl (by show ((msL 1 (rowsH hs)).length + 1) * 1 ≤ _; rw [hm]; omega) (by show ((msL 1 (rowsH hs)).length + 1) * 1 * 24 ≤ _; rw [hm]; omega) fun z3 => ?_
    refine A.rowsIn ((List.Perm.swap _ _ _).trans ((List.Perm.swap _ _ _).cons _)) ?_
    (repeat first|refine A.s rfl ?_|refine A.r rfl rfl ?_|refine A.w rfl rfl ?_|refine A.p rfl ?_|refine A.b rfl fun bx=>?_|refine A.t rfl fun bl=>?_|refine A.step rfl ?_|refine A.v rfl rfl ?_)
    refine A.valE 9 rfl (x' := .ms z3 1 (hs ++ [(z2, r)]).length) ?_ ?_
    · simp [msL, rowsH]; rfl
    refine A.valE 10 rfl (x' := AI (((hs ++ [(z2, r)]).length : Nat) : Int)) (eNx (z2, r) (by omega)) ?_
    refine A.entsEq (Λ' := [.rows 1 (rowsH (hs ++ [(z2, r)])), .row 1 z3 (msL 1 (rowsH (hs ++ [(z2, r)])))]) (by rw [rows_snoc, msL_snoc]; rfl) ?_
    refine A.sub (by repeat (first | exact trivial | refine ⟨⟨_, rfl, .refl⟩, ?_⟩)) (ih (z3, hs ++ [(z2, r)]) ⟨?_, by simp; omega⟩ (by simp; omega))
    simp [hi.1, List.take_add_one, hr]
  · simp at hc
    have hlen : hs.length = s.length := by omega
    have hsnd : hs.map Prod.snd = s := by rw [hi.1, hlen, List.take_length]
    cases hv : atM s v i with
    | none =>
      rw [hv] at hat
      (repeat first|refine A.s rfl ?_|refine A.r rfl rfl ?_|refine A.w rfl rfl ?_|refine A.p rfl ?_|refine A.b rfl fun bx=>?_|refine A.t rfl fun bl=>?_|refine A.step rfl ?_|refine A.v rfl rfl ?_); refine A.c rfl (hat) .refl ?_; (repeat first|refine A.s rfl ?_|refine A.r rfl rfl ?_|refine A.w rfl rfl ?_|refine A.p rfl ?_|refine A.b rfl fun bx=>?_|refine A.t rfl fun bl=>?_|refine A.step rfl ?_|refine A.v rfl rfl ?_)
      refine A.valE 8 rfl (x' := .ms z 1 s.length) (by rw [← hlen]) ?_
      refine A.ret1 (Λ' := [.rows 1 (rowsH hs), .row 1 z (msL 1 (rowsH hs))]) rfl rfl rfl (by repeat (first | exact List.Sublist.refl _ | apply List.Sublist.cons_cons | apply List.Sublist.cons)) ⟨(z, hs), .refl, rfl, ?_⟩
      show hs.map Prod.snd = _
      rw [hsnd, putM, hv]; rfl
    | some y =>
      rw [hv] at hat
      have hneg : ¬ (v < 0 ∨ i < 0) := fun hh => by rw [atM, if_pos hh] at hv; cases hv
      rw [atM, if_neg hneg] at hv
      refine Exists.elim (Option.bind_eq_some_iff.1 hv) fun r hr => ?_
      have hv2 : (hs.map Prod.snd)[v.toNat]? = some r := by rw [hsnd]; exact hr.1
      rw [List.getElem?_map] at hv2
      refine Exists.elim (Option.map_eq_some_iff.1 hv2) fun p hp => ?_
      have hpl : (rowsH hs)[v.toNat]? = some (p.1, r.map AI32) := by rw [rowsH, List.getElem?_map, hp.1, ← hp.2]; rfl
      have hvl : v.toNat < hs.length := (List.getElem?_eq_some_iff.1 hp.1).1
      have hrl : i.toNat < r.length := (List.getElem?_eq_some_iff.1 hr.2).1
      (repeat first|refine A.s rfl ?_|refine A.r rfl rfl ?_|refine A.w rfl rfl ?_|refine A.p rfl ?_|refine A.b rfl fun bx=>?_|refine A.t rfl fun bl=>?_|refine A.step rfl ?_|refine A.v rfl rfl ?_); refine A.c rfl (hat) .refl ?_; (repeat first|refine A.s rfl ?_|refine A.r rfl rfl ?_|refine A.w rfl rfl ?_|refine A.p rfl ?_|refine A.b rfl fun bx=>?_|refine A.t rfl fun bl=>?_|refine A.step rfl ?_|refine A.v rfl rfl ?_)
      refine A.indexRow rfl rfl rfl rfl rfl rfl rfl rfl (by omega) (by rw [rowsH_len]; show v < (hs.length : Int); omega) rfl ?_
      refine A.loadRow rfl rfl rfl rfl rfl rfl (y' := .ms p.1 1 (r.map AI32).length) rfl (by rw [msL, List.getElem?_map, hpl]; rfl) rfl rfl ?_
      refine A.rowsOut v.toNat hpl (.refl _) ?_
      (repeat first|refine A.s rfl ?_|refine A.r rfl rfl ?_|refine A.w rfl rfl ?_|refine A.p rfl ?_|refine A.b rfl fun bx=>?_|refine A.t rfl fun bl=>?_|refine A.step rfl ?_|refine A.v rfl rfl ?_)
      refine A.indexRow rfl rfl rfl rfl rfl rfl rfl rfl (by omega) (by rw [List.length_map]; omega) rfl ?_
      refine A.storeRow rfl rfl rfl rfl rfl rfl rfl rfl rfl (by rw [List.length_map]; omega) (xs' := (r.set i.toNat x).map AI32) List.map_set.symm ?_
      refine A.rowsBack (.refl _) ?_
      have hp2 : p.2 = r := hp.2
      refine A.entsEq (Λ' := [.rows 1 (rowsH (hs.set v.toNat (p.1, r.set i.toNat x))), .row 1 z (msL 1 (rowsH (hs.set v.toNat (p.1, r.set i.toNat x))))]) (by rw [set_ms hp.1 _ (by rw [List.length_set, hp2]), set_rows hvl]) ?_
      (repeat first|refine A.s rfl ?_|refine A.r rfl rfl ?_|refine A.w rfl rfl ?_|refine A.p rfl ?_|refine A.b rfl fun bx=>?_|refine A.t rfl fun bl=>?_|refine A.step rfl ?_|refine A.v rfl rfl ?_)
      refine A.valE 8 rfl (x' := .ms z 1 s.length) (by rw [← hlen]) ?_
      refine A.ret1 (Λ' := [.rows 1 (rowsH (hs.set v.toNat (p.1, r.set i.toNat x))), .row 1 z _]) rfl rfl rfl (by repeat (first | exact List.Sublist.refl _ | apply List.Sublist.cons_cons | apply List.Sublist.cons)) ⟨(z, hs.set v.toNat (p.1, r.set i.toNat x)), .refl, rfl, ?_⟩
      show (hs.set v.toNat (p.1, r.set i.toNat x)).map Prod.snd = putM s v i x
      rw [List.map_set, hsnd, putM, atM, if_neg hneg, hv, hr.1]; rfl
theorem rPut_p (s : List (List Int)) (v i x : Int) (h1 : s.length ≤ 1073741823) (h2 : ∀ r, r ∈ s → r.length ≤ 35184372088832) : Pure Try.prog gs0 23 [rowsA s, AI v, AI i, AI32 x] (rowsA (putM s v i x)) :=
  rows_pure (rput_p s v i x h1 h2)
end Go.Proofs.Ytbbainjecjdkmaa
