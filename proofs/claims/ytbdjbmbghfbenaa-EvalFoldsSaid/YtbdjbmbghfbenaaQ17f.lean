/-
  Chapter 17: Clone, Put.
-/
import Derived.Test.YtbdjbmbghfbenaaQ17e
import Derived.Test.YtbdjbmbghfbenaaLb

namespace Go.Proofs.Ytbdjbmbghfbenaa
open Go Go.Tp
set_option linter.unusedVariables false
set_option linter.unusedSimpArgs false
set_option maxRecDepth 100000
set_option maxHeartbeats 4000000

/-! ### Clone -/
theorem row_one (r : List Int) (h : GH) (zs : List Value) (q : RpC h (r.map AI32) zs) : ∀ z, z ∈ zs → allOne (cellsL z) = true := by
  induction r generalizing zs with
  | nil => rw [List.map_nil, RpC_nil] at q; subst q; intro z hz; cases hz
  | cons x r ih =>
    rw [List.map_cons, RpC_cons] at q
    obtain ⟨v, vs, rfl, q1, q2⟩ := q
    rw [Rp_v] at q1
    intro z hz
    rcases List.mem_cons.1 hz with rfl | hz
    · rw [q1.1]; rfl
    · exact ih vs q2 z hz
theorem clone_p (r : List Int) (hr : r.length ≤ 35184372088832) : FunE Try.prog gs0 24 [rowA r] [] (fun z : Value => .ms z 1 r.length) (fun z => [.row 1 z (r.map AI32)]) (fun _ => True) := by
  unfold FunE
  cases r with
  | nil =>
    refine Fun.of (S := tt) (fn := Try.f24) (n := 8) tt_ok Try.func24 rfl rfl rfl rfl fun w0 h0 F hgs => ?_
    (repeat first|refine A.s rfl ?_|refine A.r rfl rfl ?_|refine A.w rfl rfl ?_|refine A.p rfl ?_|refine A.b rfl fun bx=>?_|refine A.t rfl fun bl=>?_|refine A.step rfl ?_|refine A.v rfl rfl ?_)
    refine A.eqNil rfl rfl rfl rfl rfl rfl rfl rfl fun b hb => ?_
    cases b
    · (repeat first|refine A.s rfl ?_|refine A.r rfl rfl ?_|refine A.w rfl rfl ?_|refine A.p rfl ?_|refine A.b rfl fun bx=>?_|refine A.t rfl fun bl=>?_|refine A.step rfl ?_|refine A.v rfl rfl ?_)
      refine A.lit0 rfl rfl rfl rfl rfl rfl rfl fun bl => ?_; (repeat first|refine A.s rfl ?_|refine A.r rfl rfl ?_|refine A.w rfl rfl ?_|refine A.p rfl ?_|refine A.b rfl fun bx=>?_|refine A.t rfl fun bl=>?_|refine A.step rfl ?_|refine A.v rfl rfl ?_); refine A.appendNewW rfl rfl rfl rfl rfl rfl rfl rfl rfl rfl rfl rfl rfl (by show (List.map AI32 _).length * 1 ≤ _; rw [List.length_map]; omega) (by show (List.map AI32 _).length * 1 * 4 ≤ _; rw [List.length_map]; omega) (fun x hx => by injection hx with hx; subst hx; rfl) (row_one _) fun z => ?_; (repeat first|refine A.s rfl ?_|refine A.r rfl rfl ?_|refine A.w rfl rfl ?_|refine A.p rfl ?_|refine A.b rfl fun bx=>?_|refine A.t rfl fun bl=>?_|refine A.step rfl ?_|refine A.v rfl rfl ?_)
      refine A.ret1 (Λ' := [.row 1 z _]) rfl rfl rfl (by repeat (first | exact List.Sublist.refl _ | apply List.Sublist.cons_cons | apply List.Sublist.cons)) ⟨z, .refl, rfl, trivial⟩
    · (repeat first|refine A.s rfl ?_|refine A.r rfl rfl ?_|refine A.w rfl rfl ?_|refine A.p rfl ?_|refine A.b rfl fun bx=>?_|refine A.t rfl fun bl=>?_|refine A.step rfl ?_|refine A.v rfl rfl ?_)
      refine A.emptyRow 2 1 rfl fun z => ?_
      refine A.ret1 (Λ' := [.row 1 z []]) rfl rfl rfl (by repeat (first | exact List.Sublist.refl _ | apply List.Sublist.cons_cons | apply List.Sublist.cons)) ⟨z, .refl, rfl, trivial⟩
  | cons x r =>
    refine Fun.of (S := tt) (fn := Try.f24) (n := 8) tt_ok Try.func24 rfl rfl rfl rfl fun w0 h0 F hgs => ?_
    (repeat first|refine A.s rfl ?_|refine A.r rfl rfl ?_|refine A.w rfl rfl ?_|refine A.p rfl ?_|refine A.b rfl fun bx=>?_|refine A.t rfl fun bl=>?_|refine A.step rfl ?_|refine A.v rfl rfl ?_)
    refine A.eqNil rfl rfl rfl rfl rfl rfl rfl rfl fun b hb => ?_
    cases b
    case true => cases hb rfl
    (repeat first|refine A.s rfl ?_|refine A.r rfl rfl ?_|refine A.w rfl rfl ?_|refine A.p rfl ?_|refine A.b rfl fun bx=>?_|refine A.t rfl fun bl=>?_|refine A.step rfl ?_|refine A.v rfl rfl ?_)
    refine A.lit0 rfl rfl rfl rfl rfl rfl rfl fun bl => ?_; (repeat first|refine A.s rfl ?_|refine A.r rfl rfl ?_|refine A.w rfl rfl ?_|refine A.p rfl ?_|refine A.b rfl fun bx=>?_|refine A.t rfl fun bl=>?_|refine A.step rfl ?_|refine A.v rfl rfl ?_); refine A.appendNewW rfl rfl rfl rfl rfl rfl rfl rfl rfl rfl rfl rfl rfl (by show (List.map AI32 _).length * 1 ≤ _; rw [List.length_map]; omega) (by show (List.map AI32 _).length * 1 * 4 ≤ _; rw [List.length_map]; omega) (fun x hx => by injection hx with hx; subst hx; rfl) (row_one _) fun z => ?_; (repeat first|refine A.s rfl ?_|refine A.r rfl rfl ?_|refine A.w rfl rfl ?_|refine A.p rfl ?_|refine A.b rfl fun bx=>?_|refine A.t rfl fun bl=>?_|refine A.step rfl ?_|refine A.v rfl rfl ?_)
    refine A.valE 2 rfl (x' := .ms z 1 (x :: r).length) (by rw [List.length_map]; rfl) ?_
    refine A.ret1 (Λ' := [.row 1 z _]) rfl rfl rfl (by repeat (first | exact List.Sublist.refl _ | apply List.Sublist.cons_cons | apply List.Sublist.cons)) ⟨z, .refl, rfl, trivial⟩

/-! ### Put -/
abbrev rowsH (hs : List (Value × List Int)) : List (Value × List AV) := hs.map fun p => (p.1, p.2.map AI32)
def putM (s : List (List Int)) (v i x : Int) : List (List Int) := if (atM s v i).isSome then (match s[v.toNat]? with | some r => s.set v.toNat (r.set i.toNat x) | none => s) else s
abbrev nilV : AV := .v (.slice none 0 0)
theorem rowsH_len (hs : List (Value × List Int)) : (msL 1 (rowsH hs)).length = hs.length := by rw [msL, rowsH, List.length_map, List.length_map]
theorem out_set (hs : List (Value × List Int)) (z : Value) (r : List Int) (m : Nat) : (msL 1 (rowsH hs) ++ List.replicate (m + 1) nilV).set hs.length (.ms z 1 r.length) = msL 1 (rowsH (hs ++ [(z, r)])) ++ List.replicate m nilV := by
  rw [List.set_append_right _ _ (by rw [rowsH_len]; exact Nat.le_refl _), rowsH_len, Nat.sub_self, List.replicate_succ, List.set_cons_zero]
  simp [msL, rowsH]
theorem set_rows {hs : List (Value × List Int)} {j : Nat} (hj : j < hs.length) (z : Value) (q : List Int) : rowsH (hs.set j (z, q)) = (rowsH hs).take j ++ (z, q.map AI32) :: (rowsH hs).drop (j + 1) := by
  rw [rowsH, List.map_set, List.set_eq_take_append_cons_drop, if_pos (by rw [List.length_map]; exact hj)]
theorem set_ms {hs : List (Value × List Int)} {j : Nat} {p : Value × List Int} (hp : hs[j]? = some p) (q : List Int) (hq : q.length = p.2.length) : msL 1 (rowsH (hs.set j (p.1, q))) = msL 1 (rowsH hs) := by
  have hj : j < hs.length := (List.getElem?_eq_some_iff.1 hp).1
  apply List.ext_getElem?
  intro m
  simp only [msL, rowsH, List.getElem?_map, List.getElem?_set]
  by_cases h : j = m
  · subst h; rw [if_pos rfl, if_pos hj, hp]; simp [hq]
  · rw [if_neg h]
theorem put_p (s : List (List Int)) (v i x : Int) (h1 : s.length ≤ 1073741824) (h2 : ∀ r, r ∈ s → r.length ≤ 35184372088832) :
    FunE Try.prog gs0 13 [rowsA s, AI v, AI i, AI32 x] [] (fun p : Value × List (Value × List Int) => .ms p.1 1 s.length) (fun p => [.rows 1 (rowsH p.2), .row 1 p.1 (msL 1 (rowsH p.2))]) (fun p => p.2.map Prod.snd = putM s v i x) := by
  unfold FunE
  have hl : ((s.map rowA).length : Int) = s.length := by rw [List.length_map]
  have hat := at_p s v i
  refine Fun.of (S := tt) (fn := Try.f13) (n := 46) tt_ok Try.func13 rfl rfl rfl rfl fun w0 h0 F hgs => ?_
  (repeat first|refine A.s rfl ?_|refine A.r rfl rfl ?_|refine A.w rfl rfl ?_|refine A.p rfl ?_|refine A.b rfl fun bx=>?_|refine A.t rfl fun bl=>?_|refine A.step rfl ?_|refine A.v rfl rfl ?_)
  refine A.valE 15 rfl (x' := AI (s.length : Nat)) (ai_eq hl) ?_
  refine A.make rfl rfl rfl rfl rfl rfl rfl rfl rfl rfl rfl rfl (by omega) ?_ (by omega) fun zo => ?_
  · show ((24 : Nat) : Int) * _ ≤ _
    omega
  (repeat first|refine A.s rfl ?_|refine A.r rfl rfl ?_|refine A.w rfl rfl ?_|refine A.p rfl ?_|refine A.b rfl fun bx=>?_|refine A.t rfl fun bl=>?_|refine A.step rfl ?_|refine A.v rfl rfl ?_)
  refine A.valE 9 rfl (x' := .ms zo 1 s.length) (by rw [Int.toNat_natCast]; rfl) ?_
  refine A.entsEq (Λ' := [.row 1 zo (List.replicate s.length nilV)]) (by rw [Int.toNat_natCast]; rfl) ?_
  refine A.valE 18 rfl (x' := AI (s.length : Nat)) (ai_eq hl) ?_
  refine A.keep [0, 1, 2, 3, 9, 17, 18, 19] rfl ?_
  refine A.rows0 1 ?_
  refine A.loopP (ι := List (Value × List Int)) (fun hs => (⟨[(0, rowsA s), (1, AI v), (2, AI i), (3, AI32 x), (9, .ms zo 1 s.length), (17, rowsA s), (18, AI (s.length : Nat)), (19, AI (hs.length : Nat))], []⟩, [.rows 1 (rowsH hs), .row 1 zo (msL 1 (rowsH hs) ++ List.replicate (s.length - hs.length) nilV)]))
    (fun hs => hs.map Prod.snd = s.take hs.length ∧ hs.length ≤ s.length) (fun hs => s.length - hs.length) [] ⟨rfl, Nat.zero_le _⟩ rfl fun hs hi ih => ?_
  (repeat first|refine A.s rfl ?_|refine A.r rfl rfl ?_|refine A.w rfl rfl ?_|refine A.p rfl ?_|refine A.b rfl fun bx=>?_|refine A.t rfl fun bl=>?_|refine A.step rfl ?_|refine A.v rfl rfl ?_)
  refine A.cond rfl (fun hc => ?_) (fun hc => ?_)
  · simp at hc
    refine Exists.elim (at_exN (l := s) (i := hs.length) hc) fun r hr => ?_
    have hrl := h2 r (List.mem_of_getElem? hr)
    (repeat first|refine A.s rfl ?_|refine A.r rfl rfl ?_|refine A.w rfl rfl ?_|refine A.p rfl ?_|refine A.b rfl fun bx=>?_|refine A.t rfl fun bl=>?_|refine A.step rfl ?_|refine A.v rfl rfl ?_)
    refine A.x rfl (by omega) (map_at hr) rfl rfl ?_
    (repeat first|refine A.s rfl ?_|refine A.r rfl rfl ?_|refine A.w rfl rfl ?_|refine A.p rfl ?_|refine A.b rfl fun bx=>?_|refine A.t rfl fun bl=>?_|refine A.step rfl ?_|refine A.v rfl rfl ?_)
    refine A.e rfl (clone_p r hrl) .refl (.refl _) fun z _ => ?_
    refine A.less (Λ' := [.row 1 z (r.map AI32), .rows 1 (rowsH hs), .row 1 zo (msL 1 (rowsH hs) ++ List.replicate (s.length - hs.length) nilV)]) (by repeat (first | exact List.Sublist.refl _ | apply List.Sublist.cons_cons | apply List.Sublist.cons)) ?_
    refine A.indexRow rfl rfl rfl rfl rfl rfl rfl rfl (by omega) (by rw [List.length_append, rowsH_len, List.length_replicate]; omega) rfl ?_
    refine A.storeRow rfl rfl rfl rfl rfl rfl rfl rfl rfl ?_ (xs' := msL 1 (rowsH (hs ++ [(z, r)])) ++ List.replicate (s.length - (hs ++ [(z, r)]).length) nilV) ?_ ?_
    · rw [List.length_append, rowsH_len, List.length_replicate]; omega
    · have := out_set hs z r (s.length - (hs ++ [(z, r)]).length)
      rw [show s.length - hs.length = s.length - (hs ++ [(z, r)]).length + 1 by simp; omega]
      exact this
    refine A.rowsIn (.refl _) ?_
    (repeat first|refine A.s rfl ?_|refine A.r rfl rfl ?_|refine A.w rfl rfl ?_|refine A.p rfl ?_|refine A.b rfl fun bx=>?_|refine A.t rfl fun bl=>?_|refine A.step rfl ?_|refine A.v rfl rfl ?_)
    refine A.valE 19 rfl (x' := AI (((hs ++ [(z, r)]).length : Nat) : Int)) ?_ ?_
    · rw [inc_eq hs.length (by omega)]; simp
    refine A.entsEq (Λ' := [.rows 1 (rowsH (hs ++ [(z, r)])), .row 1 zo (msL 1 (rowsH (hs ++ [(z, r)])) ++ List.replicate (s.length - (hs ++ [(z, r)]).length) nilV)]) (by simp [rowsH]) ?_
    refine A.sub (by repeat (first | exact trivial | refine ⟨⟨_, rfl, .refl⟩, ?_⟩)) (ih (hs ++ [(z, r)]) ⟨?_, by simp; omega⟩ (by simp; omega))
    simp [hi.1, List.take_add_one, hr]
  · simp at hc
    have hlen : hs.length = s.length := by omega
    have hsnd : hs.map Prod.snd = s := by rw [hi.1, hlen, List.take_length]
    refine A.entsEq (Λ' := [.rows 1 (rowsH hs), .row 1 zo (msL 1 (rowsH hs))]) (by rw [hlen, Nat.sub_self]; simp) ?_
    cases hv : atM s v i with
    | none =>
      rw [hv] at hat
      (repeat first|refine A.s rfl ?_|refine A.r rfl rfl ?_|refine A.w rfl rfl ?_|refine A.p rfl ?_|refine A.b rfl fun bx=>?_|refine A.t rfl fun bl=>?_|refine A.step rfl ?_|refine A.v rfl rfl ?_); refine A.c rfl (hat) .refl ?_; (repeat first|refine A.s rfl ?_|refine A.r rfl rfl ?_|refine A.w rfl rfl ?_|refine A.p rfl ?_|refine A.b rfl fun bx=>?_|refine A.t rfl fun bl=>?_|refine A.step rfl ?_|refine A.v rfl rfl ?_)
      refine A.ret1 (Λ' := [.rows 1 (rowsH hs), .row 1 zo (msL 1 (rowsH hs))]) rfl rfl rfl (by repeat (first | exact List.Sublist.refl _ | apply List.Sublist.cons_cons | apply List.Sublist.cons)) ⟨(zo, hs), .refl, rfl, ?_⟩
      show hs.map Prod.snd = _
      rw [hsnd, putM, hv]; rfl
    | some y =>
      rw [hv] at hat
      (repeat first|refine A.s rfl ?_|refine A.r rfl rfl ?_|refine A.w rfl rfl ?_|refine A.p rfl ?_|refine A.b rfl fun bx=>?_|refine A.t rfl fun bl=>?_|refine A.step rfl ?_|refine A.v rfl rfl ?_); refine A.c rfl (hat) .refl ?_; (repeat first|refine A.s rfl ?_|refine A.r rfl rfl ?_|refine A.w rfl rfl ?_|refine A.p rfl ?_|refine A.b rfl fun bx=>?_|refine A.t rfl fun bl=>?_|refine A.step rfl ?_|refine A.v rfl rfl ?_)
      unfold atM at hv
      by_cases hneg : v < 0 ∨ i < 0
      · rw [if_pos hneg] at hv; cases hv
      rw [if_neg hneg] at hv
      refine Exists.elim (Option.bind_eq_some_iff.1 hv) fun r hr => ?_
      have hgv : hs[v.toNat]? = (hs[v.toNat]?) := rfl
      have hv2 : (hs.map Prod.snd)[v.toNat]? = some r := by rw [hsnd]; exact hr.1
      rw [List.getElem?_map] at hv2
      refine Exists.elim (Option.map_eq_some_iff.1 hv2) fun p hp => ?_
      have hpl : (rowsH hs)[v.toNat]? = some (p.1, r.map AI32) := by rw [rowsH, List.getElem?_map, hp.1, ← hp.2]; rfl
      have hvl : v.toNat < hs.length := (List.getElem?_eq_some_iff.1 hp.1).1
      have hrl : i.toNat < r.length := (List.getElem?_eq_some_iff.1 hr.2).1
      refine A.indexRow rfl rfl rfl rfl rfl rfl rfl rfl (by omega) (by rw [rowsH_len]; omega) rfl ?_
      refine A.loadRow rfl rfl rfl rfl rfl rfl (y' := .ms p.1 1 (r.map AI32).length) rfl (by rw [msL, List.getElem?_map, hpl]; rfl) rfl rfl ?_
      refine A.rowsOut v.toNat hpl (.refl _) ?_
      (repeat first|refine A.s rfl ?_|refine A.r rfl rfl ?_|refine A.w rfl rfl ?_|refine A.p rfl ?_|refine A.b rfl fun bx=>?_|refine A.t rfl fun bl=>?_|refine A.step rfl ?_|refine A.v rfl rfl ?_)
      refine A.indexRow rfl rfl rfl rfl rfl rfl rfl rfl (by omega) (by rw [List.length_map]; omega) rfl ?_
      refine A.storeRow rfl rfl rfl rfl rfl rfl rfl rfl rfl (by rw [List.length_map]; omega) (xs' := (r.set i.toNat x).map AI32) List.map_set.symm ?_
      refine A.rowsBack (.refl _) ?_
      have hp2 : p.2 = r := hp.2
      refine A.entsEq (Λ' := [.rows 1 (rowsH (hs.set v.toNat (p.1, r.set i.toNat x))), .row 1 zo (msL 1 (rowsH (hs.set v.toNat (p.1, r.set i.toNat x))))]) (by rw [set_ms hp.1 _ (by rw [List.length_set, hp2]), set_rows hvl]) ?_
      (repeat first|refine A.s rfl ?_|refine A.r rfl rfl ?_|refine A.w rfl rfl ?_|refine A.p rfl ?_|refine A.b rfl fun bx=>?_|refine A.t rfl fun bl=>?_|refine A.step rfl ?_|refine A.v rfl rfl ?_)
      refine A.ret1 (Λ' := [.rows 1 (rowsH (hs.set v.toNat (p.1, r.set i.toNat x))), .row 1 zo _]) rfl rfl rfl (by repeat (first | exact List.Sublist.refl _ | apply List.Sublist.cons_cons | apply List.Sublist.cons)) ⟨(zo, hs.set v.toNat (p.1, r.set i.toNat x)), .refl, rfl, ?_⟩
      show (hs.set v.toNat (p.1, r.set i.toNat x)).map Prod.snd = putM s v i x
      rw [List.map_set, hsnd, putM, atM, if_neg hneg, hv, hr.1]; rfl
end Go.Proofs.Ytbdjbmbghfbenaa
