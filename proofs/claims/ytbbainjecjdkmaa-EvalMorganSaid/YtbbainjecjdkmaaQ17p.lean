/-
  Chapter 17: EvalPlaces.
-/
import Derived.Test.YtbbainjecjdkmaaQ17n
import Derived.Test.YtbbainjecjdkmaaQ17l

namespace Go.Proofs.Ytbbainjecjdkmaa
open Go Go.Tp
set_option linter.unusedVariables false
set_option linter.unusedSimpArgs false
set_option maxRecDepth 100000
set_option maxHeartbeats 4000000

theorem same_lent (hs : List (Value × List Int)) (z : Value) (n : Nat) (t : List (List Int)) (hb : short (hs.map Prod.snd)) :
    Fun Try.prog gs0 15 [.ms z 1 n, rowsA t] [.rows 1 (rowsH hs), .row 1 z (msL 1 (rowsH hs))] (fun y Λ' => y = AB (sameB (hs.map Prod.snd) t) ∧ Λ' = [.rows 1 (rowsH hs), .row 1 z (msL 1 (rowsH hs))]) := by
  have h := rSame_p (hs.map Prod.snd) t hb
  have e : rowsA (hs.map Prod.snd) = .sl 1 (slL 1 (rowsH hs)) none := by rw [sl_rows]
  rw [e] at h
  exact Pure.lend Try.func15 rfl rfl h rfl (LtL.cons (Lt.rows (by simp) (by simp)) (LtL.cons (Lt.sub .refl) LtL.nil))
theorem putM_none (s : List (List Int)) : putM s (-1) 0 0 = s := putM_no (by rw [atM, if_pos (by omega)]) 0
theorem short_put {s : List (List Int)} (hb : short s) (v i x : Int) : short (putM s v i x) := by
  unfold putM
  split
  · split
    · rename_i r hr; exact short_set hb hr
    · exact hb
  · exact hb
theorem ms_at {hs hs' : List (Value × List Int)} (h : msL 1 (rowsH hs') = msL 1 (rowsH hs)) {j : Nat} {p : Value × List Int} (hp : hs'[j]? = some p) : (msL 1 (rowsH hs))[j]? = some (.ms p.1 1 p.2.length) := by
  rw [← h, msL, rowsH, List.getElem?_map, List.getElem?_map, hp]; simp
theorem putM_len (s : List (List Int)) (v i x : Int) : (putM s v i x).length = s.length := by
  unfold putM
  split
  · split
    · rw [List.length_set]
    · rfl
  · rfl
theorem putM_long {s : List (List Int)} (h4 : ∀ r, r ∈ s → r.length ≤ 35184372088832) {v i x : Int} {q : List Int} (hq : q ∈ putM s v i x) : q.length ≤ 35184372088832 := by
  unfold putM at hq
  split at hq
  · split at hq
    · rename_i r hr
      rcases List.mem_or_eq_of_mem_set hq with hq | rfl
      · exact h4 q hq
      · rw [List.length_set]; exact h4 r (List.mem_of_getElem? hr)
    · exact h4 q hq
  · exact h4 q hq
theorem places_law (s : List (List Int)) (pv : Int) (pl : List KE) (v i x : Int) (hs : wfS s) (hb : short s) (h4 : ∀ r, r ∈ s → r.length ≤ 35184372088832) (hw : wfKl pl) (hpl : pl.length ≤ 281474976710656) (hx : i32 x) : Pure Try.prog gs0 5 [rowsA s, encP pv pl, AI v, AI i, AI32 x] (AB true) := by
  have hl : ((s.map rowA).length : Int) = s.length := by rw [List.length_map]
  have g1 := great_p s hb
  have aw := awake_p
  cases hg1 : greatB s with
  | true =>
    rw [hg1] at g1
    refine Pure.of (S := tt) (fn := Try.f5) (n := 96) tt_ok Try.func5 rfl rfl rfl rfl fun w0 h0 F hgs => ?_
    (repeat first|refine A.s rfl ?_|refine A.r rfl rfl ?_|refine A.w rfl rfl ?_|refine A.p rfl ?_|refine A.b rfl fun bx=>?_|refine A.t rfl fun bl=>?_); refine A.c rfl (g1) .refl ?_
    (repeat first|refine A.s rfl ?_|refine A.r rfl rfl ?_|refine A.w rfl rfl ?_|refine A.p rfl ?_|refine A.b rfl fun bx=>?_|refine A.t rfl fun bl=>?_); refine A.c rfl aw .refl ?_; (repeat first|refine A.s rfl ?_|refine A.r rfl rfl ?_|refine A.w rfl rfl ?_|refine A.p rfl ?_|refine A.b rfl fun bx=>?_|refine A.t rfl fun bl=>?_); refine A.ret1 (Λ' := []) rfl rfl rfl (List.nil_sublist _) ⟨?_, rfl⟩; exact .refl
  | false =>
  rw [hg1] at g1
  have hs600 : s.length ≤ 600 := by have h1 := of_decide_eq_false hg1; have h2 : s.length ≤ greatN s 300 := Nat.le_add_right _ _; omega
  have hP := Place_p s hs pv pl hw hpl
  have hR := rPlace_p s hs pv pl hw hpl
  have hK := rPut_p s (-1) 0 0 (by omega) h4
  rw [putM_none] at hK
  have hput := put_p s v i x (by omega) h4
  have hput2 := rPut_p s v i x (by omega) h4
  have hsame := rSame_p s s hb
  rw [same_refl] at hsame
  refine Pure.of (S := tt) (fn := Try.f5) (n := 96) tt_ok Try.func5 rfl rfl rfl rfl fun w0 h0 F hgs => ?_
  (repeat first|refine A.s rfl ?_|refine A.r rfl rfl ?_|refine A.w rfl rfl ?_|refine A.p rfl ?_|refine A.b rfl fun bx=>?_|refine A.t rfl fun bl=>?_); refine A.c rfl (g1) .refl ?_
  (repeat first|refine A.s rfl ?_|refine A.r rfl rfl ?_|refine A.w rfl rfl ?_|refine A.p rfl ?_|refine A.b rfl fun bx=>?_|refine A.t rfl fun bl=>?_); refine A.c rfl hP .refl ?_
  (repeat first|refine A.s rfl ?_|refine A.r rfl rfl ?_|refine A.w rfl rfl ?_|refine A.p rfl ?_|refine A.b rfl fun bx=>?_|refine A.t rfl fun bl=>?_); refine A.c rfl hR .refl ?_
  (repeat first|refine A.s rfl ?_|refine A.r rfl rfl ?_|refine A.w rfl rfl ?_|refine A.p rfl ?_|refine A.b rfl fun bx=>?_|refine A.t rfl fun bl=>?_)
  refine A.valE 41 rfl (x' := AB false) (ab_eq (by simp)) ?_
  (repeat first|refine A.s rfl ?_|refine A.r rfl rfl ?_|refine A.w rfl rfl ?_|refine A.p rfl ?_|refine A.b rfl fun bx=>?_|refine A.t rfl fun bl=>?_)
  refine A.valE 46 rfl (x' := AB false) (ab_eq (by simp)) ?_
  (repeat first|refine A.s rfl ?_|refine A.r rfl rfl ?_|refine A.w rfl rfl ?_|refine A.p rfl ?_|refine A.b rfl fun bx=>?_|refine A.t rfl fun bl=>?_)
  refine A.valE 50 rfl (x' := AB false) (ab_eq (by simp)) ?_
  (repeat first|refine A.s rfl ?_|refine A.r rfl rfl ?_|refine A.w rfl rfl ?_|refine A.p rfl ?_|refine A.b rfl fun bx=>?_|refine A.t rfl fun bl=>?_); refine A.c rfl hK .refl ?_
  (repeat first|refine A.s rfl ?_|refine A.r rfl rfl ?_|refine A.w rfl rfl ?_|refine A.p rfl ?_|refine A.b rfl fun bx=>?_|refine A.t rfl fun bl=>?_); refine A.e rfl hput .refl (List.Perm.refl _) fun p hp => ?_
  (repeat first|refine A.s rfl ?_|refine A.r rfl rfl ?_|refine A.w rfl rfl ?_|refine A.p rfl ?_|refine A.b rfl fun bx=>?_|refine A.t rfl fun bl=>?_); refine A.c rfl hput2 .refl ?_
  (repeat first|refine A.s rfl ?_|refine A.r rfl rfl ?_|refine A.w rfl rfl ?_|refine A.p rfl ?_|refine A.b rfl fun bx=>?_|refine A.t rfl fun bl=>?_)
  refine A.d rfl (same_lent p.2 p.1 s.length (putM s v i x) (by rw [hp]; exact short_put hb v i x)) .refl (List.Perm.refl _) ?_
  refine A.valE 64 rfl (x' := AB true) (ab_eq (by rw [hp, same_refl])) ?_
  (repeat first|refine A.s rfl ?_|refine A.r rfl rfl ?_|refine A.w rfl rfl ?_|refine A.p rfl ?_|refine A.b rfl fun bx=>?_|refine A.t rfl fun bl=>?_)
  have hpl2 : p.2.length = s.length := by have := congrArg List.length hp; rw [List.length_map, putM_len] at this; exact this
  have hm := rowsH_len p.2
  refine A.keep [0, 17, 18, 67, 68] rfl ?_
  refine A.less (Λ' := [.rows 1 (rowsH p.2), .row 1 p.1 (msL 1 (rowsH p.2))]) (by repeat (first | exact List.Sublist.refl _ | apply List.Sublist.cons_cons | apply List.Sublist.cons)) ?_
  refine A.loopP (ι := Nat × List (Value × List Int)) (fun q => (⟨[(0, rowsA s), (17, rowsA s), (18, .ms p.1 1 s.length), (67, AI (s.length : Nat)), (68, AI (q.1 : Nat))], []⟩, [.rows 1 (rowsH q.2), .row 1 p.1 (msL 1 (rowsH p.2))]))
    (fun q => q.1 ≤ s.length ∧ q.2.length = s.length ∧ msL 1 (rowsH q.2) = msL 1 (rowsH p.2) ∧ ∀ y, y ∈ q.2 → y.2.length ≤ 35184372088832) (fun q => s.length - q.1) (0, p.2) ⟨Nat.zero_le _, hpl2, rfl, ?_⟩ rfl fun q hq ih => ?_
  · intro y hy
    have h9 : y.2 ∈ putM s v i x := by rw [← hp]; exact List.mem_map_of_mem hy
    exact putM_long h4 h9
  obtain ⟨k, hs'⟩ := q
  obtain ⟨q1, q2, q3, q4⟩ := hq
  simp only at q1 q2 q3 q4
  (repeat first|refine A.s rfl ?_|refine A.r rfl rfl ?_|refine A.w rfl rfl ?_|refine A.p rfl ?_|refine A.b rfl fun bx=>?_|refine A.t rfl fun bl=>?_|refine A.step rfl ?_|refine A.v rfl rfl ?_)
  refine A.cond rfl (fun hc => ?_) (fun hc => ?_)
  · simp at hc
    refine Exists.elim (at_exN (l := hs') (i := k) (by omega)) fun y hy => ?_
    have hyl := q4 y (List.mem_of_getElem? hy)
    have hat := ms_at q3 hy
    have hat2 : (rowsH hs')[k]? = some (y.1, y.2.map AI32) := by rw [rowsH]; exact map_at hy
    have eNk := inc_eq k (by omega)
    have hkl : k < hs'.length := by omega
    (repeat first|refine A.s rfl ?_|refine A.r rfl rfl ?_|refine A.w rfl rfl ?_|refine A.p rfl ?_|refine A.b rfl fun bx=>?_|refine A.t rfl fun bl=>?_|refine A.step rfl ?_|refine A.v rfl rfl ?_)
    refine A.indexRow rfl rfl rfl rfl rfl rfl rfl rfl (by omega) (by rw [hm]; omega) rfl ?_
    refine A.loadRow rfl rfl rfl rfl rfl rfl (y' := .ms y.1 1 y.2.length) rfl hat rfl rfl ?_
    refine A.rowsOut k hat2 (.refl _) ?_
    (repeat first|refine A.s rfl ?_|refine A.r rfl rfl ?_|refine A.w rfl rfl ?_|refine A.p rfl ?_|refine A.b rfl fun bx=>?_|refine A.t rfl fun bl=>?_|refine A.step rfl ?_|refine A.v rfl rfl ?_)
    refine A.keep [0, 17, 18, 19, 67, 68, 75, 76] rfl ?_
    refine A.loopP (ι := Nat × List Int) (fun u => (⟨[(0, rowsA s), (17, rowsA s), (18, .ms p.1 1 s.length), (19, AI (k : Nat)), (67, AI (s.length : Nat)), (68, AI (k : Nat)), (75, AI (y.2.length : Nat)), (76, AI (u.1 : Nat))], []⟩, [.row 1 y.1 (u.2.map AI32), .rows 1 ((rowsH hs').take k), .rows 1 ((rowsH hs').drop (k + 1)), .row 1 p.1 (msL 1 (rowsH p.2))]))
      (fun u => u.1 ≤ y.2.length ∧ u.2.length = y.2.length) (fun u => y.2.length - u.1) (0, y.2) ⟨Nat.zero_le _, rfl⟩ rfl fun u hu ihu => ?_
    obtain ⟨b, r⟩ := u
    obtain ⟨u1, u2⟩ := hu
    simp only at u1 u2
    (repeat first|refine A.s rfl ?_|refine A.r rfl rfl ?_|refine A.w rfl rfl ?_|refine A.p rfl ?_|refine A.b rfl fun bx=>?_|refine A.t rfl fun bl=>?_|refine A.step rfl ?_|refine A.v rfl rfl ?_)
    refine A.cond rfl (fun hc => ?_) (fun hc => ?_)
    · simp at hc
      refine Exists.elim (at_exN (l := r) (i := b) (by omega)) fun c hcc => ?_
      have eNb := inc_eq b (by omega)
      (repeat first|refine A.s rfl ?_|refine A.r rfl rfl ?_|refine A.w rfl rfl ?_|refine A.p rfl ?_|refine A.b rfl fun bx=>?_|refine A.t rfl fun bl=>?_|refine A.step rfl ?_|refine A.v rfl rfl ?_)
      refine A.indexRow rfl rfl rfl rfl rfl rfl rfl rfl (by omega) (by rw [hm]; omega) rfl ?_
      refine A.loadRow rfl rfl rfl rfl rfl rfl (y' := .ms y.1 1 y.2.length) rfl hat rfl rfl ?_
      (repeat first|refine A.s rfl ?_|refine A.r rfl rfl ?_|refine A.w rfl rfl ?_|refine A.p rfl ?_|refine A.b rfl fun bx=>?_|refine A.t rfl fun bl=>?_|refine A.step rfl ?_|refine A.v rfl rfl ?_)
      refine A.indexRow rfl rfl rfl rfl rfl rfl rfl rfl (by omega) (by rw [List.length_map]; show (b : Int) < (r.length : Int); omega) rfl ?_
      refine A.loadRow rfl rfl rfl rfl rfl rfl (y' := AI32 c) rfl (map_at hcc) rfl rfl ?_
      (repeat first|refine A.s rfl ?_|refine A.r rfl rfl ?_|refine A.w rfl rfl ?_|refine A.p rfl ?_|refine A.b rfl fun bx=>?_|refine A.t rfl fun bl=>?_|refine A.step rfl ?_|refine A.v rfl rfl ?_)
      refine A.indexRow rfl rfl rfl rfl rfl rfl rfl rfl (by omega) (by rw [List.length_map]; show (b : Int) < (r.length : Int); omega) rfl ?_
      refine A.storeRow rfl rfl rfl rfl rfl rfl rfl rfl rfl (by rw [List.length_map]; show b < r.length; omega) (xs' := (r.set b (IntKind.i32.wrap (c + 1))).map AI32) List.map_set.symm ?_
      (repeat first|refine A.s rfl ?_|refine A.r rfl rfl ?_|refine A.w rfl rfl ?_|refine A.p rfl ?_|refine A.b rfl fun bx=>?_|refine A.t rfl fun bl=>?_|refine A.step rfl ?_|refine A.v rfl rfl ?_)
      refine A.valE 76 rfl (x' := AI ((b + 1 : Nat) : Int)) eNb ?_
      refine A.sub (by repeat (first | exact trivial | refine ⟨⟨_, rfl, .refl⟩, ?_⟩)) (ihu (b + 1, r.set b (IntKind.i32.wrap (c + 1))) ⟨by show b + 1 ≤ _; omega, by rw [List.length_set]; exact u2⟩ (by show _ - (b + 1) < _ - b; omega))
    · simp at hc
      refine A.rowsBack (.refl _) ?_
      refine A.entsEq (Λ' := [.rows 1 (rowsH (hs'.set k (y.1, r))), .row 1 p.1 (msL 1 (rowsH p.2))]) (by rw [set_rows hkl]) ?_
      (repeat first|refine A.s rfl ?_|refine A.r rfl rfl ?_|refine A.w rfl rfl ?_|refine A.p rfl ?_|refine A.b rfl fun bx=>?_|refine A.t rfl fun bl=>?_|refine A.step rfl ?_|refine A.v rfl rfl ?_)
      refine A.valE 68 rfl (x' := AI ((k + 1 : Nat) : Int)) eNk ?_
      refine A.sub (by repeat (first | exact trivial | refine ⟨⟨_, rfl, .refl⟩, ?_⟩)) (ih (k + 1, hs'.set k (y.1, r)) ⟨by show k + 1 ≤ _; omega, by rw [List.length_set]; exact q2, by rw [set_ms hy r u2]; exact q3, ?_⟩ (by show _ - (k + 1) < _ - k; omega))
      intro w hw'
      rcases List.mem_or_eq_of_mem_set hw' with hw' | rfl
      · exact q4 w hw'
      · show r.length ≤ _; omega
  · simp at hc
    (repeat first|refine A.s rfl ?_|refine A.r rfl rfl ?_|refine A.w rfl rfl ?_|refine A.p rfl ?_|refine A.b rfl fun bx=>?_|refine A.t rfl fun bl=>?_); refine A.c rfl hsame .refl ?_
    (repeat first|refine A.s rfl ?_|refine A.r rfl rfl ?_|refine A.w rfl rfl ?_|refine A.p rfl ?_|refine A.b rfl fun bx=>?_|refine A.t rfl fun bl=>?_); refine A.c rfl aw .refl ?_
    (repeat first|refine A.s rfl ?_|refine A.r rfl rfl ?_|refine A.w rfl rfl ?_|refine A.p rfl ?_|refine A.b rfl fun bx=>?_|refine A.t rfl fun bl=>?_); refine A.ret1 (Λ' := []) rfl rfl rfl (List.nil_sublist _) ⟨?_, rfl⟩; exact .refl
end Go.Proofs.Ytbbainjecjdkmaa
