/-
  Layer 10: May.
-/
import Derived.Test.YtbdjbmbghfbenaaQ10a

namespace Go.Proofs.Ytbdjbmbghfbenaa
open Go Go.Tp
set_option linter.unusedVariables false
set_option linter.unusedSimpArgs false
set_option maxRecDepth 100000
set_option maxHeartbeats 4000000

abbrev cellsX (e : XE) : AV := .ag [AU8 e.kind, AU8 e.oper, AU8 e.to, AI32 e.n, AS e.s, .sl 6 (encXl e.l) none]
def closX (b1 b2 : Nat) : AV := .fn 33 [] [.v (.pointer (some ⟨b1, 0, none⟩)), .v (.pointer (some ⟨b2, 0, none⟩))]
abbrev visX (e : XE) (left deep : Int) : Int → AV := fun _ => AB (decide (fitsX e left (33 - deep)))
abbrev visL (b1 b2 : Nat) : Int → List AEnt := fun i => [.box b1 (AI i), .box b2 (closX b1 b2)]
abbrev visP (e : XE) (left deep : Int) : Int → Prop := fun i => fitsX e left (33 - deep) → i = left - szX e
theorem htXl_le : ∀ {l : List XE} {x : XE}, x ∈ l → htX x ≤ htXl l
  | [], _, h => by cases h
  | y :: r, x, h => by
    rw [htXl]
    rcases List.mem_cons.1 h with rfl | h
    · omega
    · have := htXl_le h; omega
theorem szXl_le : ∀ {l : List XE} {x : XE}, x ∈ l → szX x ≤ szXl l
  | [], _, h => by cases h
  | y :: r, x, h => by
    rw [szXl]
    rcases List.mem_cons.1 h with rfl | h
    · omega
    · have := szXl_le h; omega
theorem visit_p (m : Int) (b1 b2 : Nat) : ∀ (N : Nat) (e : XE) (left deep : Int), szX e ≤ N → wfX e → 0 ≤ left → left ≤ 256 → 1 ≤ deep → deep ≤ 33 →
    FunE Try.prog (gsM m) 33 [encX e, AI deep, .v (.pointer (some ⟨b1, 0, none⟩)), .v (.pointer (some ⟨b2, 0, none⟩))] [.box b1 (AI left), .box b2 (closX b1 b2)] (visX e left deep) (visL b1 b2) (visP e left deep)
  | 0, e, left, deep, hn, _, _, _, _, _ => by have := szX_pos e; omega
  | N + 1, e, left, deep, hn, hw, r0, r1, d0, d1 => by
    have hw1 : IntKind.i64.wrap (left - 1) = left - 1 := wr64 _ (by omega)
    have hw2 : IntKind.i64.wrap (deep + 1) = deep + 1 := wr64 _ (by omega)
    have hp := parts_p m e hw
    have hlen : ((encXl e.l).length : Int) = e.l.length := by rw [encXl_len]
    have hll : e.l.length ≤ 281474976710656 := by obtain ⟨k, o, t, n, s, l⟩ := e; rw [wfX] at hw; exact hw.1.2.2.2.2.2
    rw [encX_eq] at hp ⊢
    unfold FunE
    generalize hpm : partsM e.kind e.oper e.to e.n e.s = pm at hp
    obtain ⟨pn, ok⟩ := pm
    have hshape : shapeX e = (ok && decide ((e.l.length : Int) = pn)) := by rw [shapeX, hpm]
    cases ok with
    | false =>
      have hnf : ¬ fitsX e left (33 - deep) := fitsX_no (.inr (.inr (by rw [hshape]; rfl)))
      refine Fun.of (S := tt) (fn := Try.f33) (n := 49) tt_ok Try.func33 rfl rfl rfl rfl fun w0 h0 F hgs => ?_
      (repeat first|refine A.s rfl ?_|refine A.r rfl rfl ?_|refine A.w rfl rfl ?_|refine A.p rfl ?_|refine A.b rfl fun bx=>?_|refine A.t rfl fun bl=>?_); refine A.c rfl hp .refl ?_
      (repeat first|refine A.s rfl ?_|refine A.r rfl rfl ?_|refine A.w rfl rfl ?_|refine A.p rfl ?_|refine A.b rfl fun bx=>?_|refine A.t rfl fun bl=>?_); (refine A.ret1 (Λ' := [.box b1 _, .box b2 _]) rfl rfl rfl (by repeat (first | exact List.Sublist.refl _ | apply List.Sublist.cons_cons | apply List.Sublist.cons)) ⟨_, Sb.eq (ab_eq ?_), rfl, ?_⟩; exact (decide_eq_false hnf).symm; exact fun h => absurd h hnf)
    | true =>
    by_cases hz : left = 0
    · have hnf : ¬ fitsX e left (33 - deep) := fitsX_no (by omega)
      refine Fun.of (S := tt) (fn := Try.f33) (n := 49) tt_ok Try.func33 rfl rfl rfl rfl fun w0 h0 F hgs => ?_
      (repeat first|refine A.s rfl ?_|refine A.r rfl rfl ?_|refine A.w rfl rfl ?_|refine A.p rfl ?_|refine A.b rfl fun bx=>?_|refine A.t rfl fun bl=>?_); refine A.c rfl hp .refl ?_
      (repeat first|refine A.s rfl ?_|refine A.r rfl rfl ?_|refine A.w rfl rfl ?_|refine A.p rfl ?_|refine A.b rfl fun bx=>?_|refine A.t rfl fun bl=>?_)
      refine A.valE 24 rfl (x' := AB true) (ab_eq (by rw [hw1]; simp; omega)) ?_
      (repeat first|refine A.s rfl ?_|refine A.r rfl rfl ?_|refine A.w rfl rfl ?_|refine A.p rfl ?_|refine A.b rfl fun bx=>?_|refine A.t rfl fun bl=>?_); (refine A.ret1 (Λ' := [.box b1 _, .box b2 _]) rfl rfl rfl (by repeat (first | exact List.Sublist.refl _ | apply List.Sublist.cons_cons | apply List.Sublist.cons)) ⟨_, Sb.eq (ab_eq ?_), rfl, ?_⟩; exact (decide_eq_false hnf).symm; exact fun h => absurd h hnf)
    by_cases hd33 : deep = 33
    · have hnf : ¬ fitsX e left (33 - deep) := fitsX_no (by omega)
      refine Fun.of (S := tt) (fn := Try.f33) (n := 49) tt_ok Try.func33 rfl rfl rfl rfl fun w0 h0 F hgs => ?_
      (repeat first|refine A.s rfl ?_|refine A.r rfl rfl ?_|refine A.w rfl rfl ?_|refine A.p rfl ?_|refine A.b rfl fun bx=>?_|refine A.t rfl fun bl=>?_); refine A.c rfl hp .refl ?_
      (repeat first|refine A.s rfl ?_|refine A.r rfl rfl ?_|refine A.w rfl rfl ?_|refine A.p rfl ?_|refine A.b rfl fun bx=>?_|refine A.t rfl fun bl=>?_)
      refine A.valE 24 rfl (x' := AB false) (ab_eq (by rw [hw1]; simp; omega)) ?_
      (repeat first|refine A.s rfl ?_|refine A.r rfl rfl ?_|refine A.w rfl rfl ?_|refine A.p rfl ?_|refine A.b rfl fun bx=>?_|refine A.t rfl fun bl=>?_)
      refine A.valE 28 rfl (x' := AB true) (ab_eq (by simp; omega)) ?_
      (repeat first|refine A.s rfl ?_|refine A.r rfl rfl ?_|refine A.w rfl rfl ?_|refine A.p rfl ?_|refine A.b rfl fun bx=>?_|refine A.t rfl fun bl=>?_); (refine A.ret1 (Λ' := [.box b1 _, .box b2 _]) rfl rfl rfl (by repeat (first | exact List.Sublist.refl _ | apply List.Sublist.cons_cons | apply List.Sublist.cons)) ⟨_, Sb.eq (ab_eq ?_), rfl, ?_⟩; exact (decide_eq_false hnf).symm; exact fun h => absurd h hnf)
    by_cases hpn : (e.l.length : Int) = pn
    case neg =>
      have hnf : ¬ fitsX e left (33 - deep) := fitsX_no (.inr (.inr (by rw [hshape]; simp [hpn])))
      refine Fun.of (S := tt) (fn := Try.f33) (n := 49) tt_ok Try.func33 rfl rfl rfl rfl fun w0 h0 F hgs => ?_
      (repeat first|refine A.s rfl ?_|refine A.r rfl rfl ?_|refine A.w rfl rfl ?_|refine A.p rfl ?_|refine A.b rfl fun bx=>?_|refine A.t rfl fun bl=>?_); refine A.c rfl hp .refl ?_
      (repeat first|refine A.s rfl ?_|refine A.r rfl rfl ?_|refine A.w rfl rfl ?_|refine A.p rfl ?_|refine A.b rfl fun bx=>?_|refine A.t rfl fun bl=>?_)
      refine A.valE 24 rfl (x' := AB false) (ab_eq (by rw [hw1]; simp; omega)) ?_
      (repeat first|refine A.s rfl ?_|refine A.r rfl rfl ?_|refine A.w rfl rfl ?_|refine A.p rfl ?_|refine A.b rfl fun bx=>?_|refine A.t rfl fun bl=>?_)
      refine A.valE 28 rfl (x' := AB false) (ab_eq (by simp; omega)) ?_
      (repeat first|refine A.s rfl ?_|refine A.r rfl rfl ?_|refine A.w rfl rfl ?_|refine A.p rfl ?_|refine A.b rfl fun bx=>?_|refine A.t rfl fun bl=>?_)
      refine A.valE 34 rfl (x' := AB true) (ab_eq (by rw [hlen]; simp [hpn])) ?_
      (repeat first|refine A.s rfl ?_|refine A.r rfl rfl ?_|refine A.w rfl rfl ?_|refine A.p rfl ?_|refine A.b rfl fun bx=>?_|refine A.t rfl fun bl=>?_); (refine A.ret1 (Λ' := [.box b1 _, .box b2 _]) rfl rfl rfl (by repeat (first | exact List.Sublist.refl _ | apply List.Sublist.cons_cons | apply List.Sublist.cons)) ⟨_, Sb.eq (ab_eq ?_), rfl, ?_⟩; exact (decide_eq_false hnf).symm; exact fun h => absurd h hnf)
    have hs : shapeX e = true := by rw [hshape]; simp [hpn]
    have hfl := fitsX_l (e := e) (room := left) (deep := 33 - deep) (by omega) (by omega) hs
    rw [show 33 - deep - 1 = 33 - (deep + 1) by omega] at hfl
    refine Fun.of (S := tt) (fn := Try.f33) (n := 49) tt_ok Try.func33 rfl rfl rfl rfl fun w0 h0 F hgs => ?_
    (repeat first|refine A.s rfl ?_|refine A.r rfl rfl ?_|refine A.w rfl rfl ?_|refine A.p rfl ?_|refine A.b rfl fun bx=>?_|refine A.t rfl fun bl=>?_); refine A.c rfl hp .refl ?_
    (repeat first|refine A.s rfl ?_|refine A.r rfl rfl ?_|refine A.w rfl rfl ?_|refine A.p rfl ?_|refine A.b rfl fun bx=>?_|refine A.t rfl fun bl=>?_)
    refine A.valE 24 rfl (x' := AB false) (ab_eq (by rw [hw1]; simp; omega)) ?_
    (repeat first|refine A.s rfl ?_|refine A.r rfl rfl ?_|refine A.w rfl rfl ?_|refine A.p rfl ?_|refine A.b rfl fun bx=>?_|refine A.t rfl fun bl=>?_)
    refine A.valE 28 rfl (x' := AB false) (ab_eq (by simp; omega)) ?_
    (repeat first|refine A.s rfl ?_|refine A.r rfl rfl ?_|refine A.w rfl rfl ?_|refine A.p rfl ?_|refine A.b rfl fun bx=>?_|refine A.t rfl fun bl=>?_)
    refine A.valE 34 rfl (x' := AB false) (ab_eq (by rw [hlen]; simp [hpn])) ?_
    (repeat first|refine A.s rfl ?_|refine A.r rfl rfl ?_|refine A.w rfl rfl ?_|refine A.p rfl ?_|refine A.b rfl fun bx=>?_|refine A.t rfl fun bl=>?_)
    refine A.valE 37 rfl (x' := AI (e.l.length : Nat)) (ai_eq hlen) ?_
    refine A.keep [1, 2, 3, 36, 37, 38] rfl ?_
    refine A.entsEq (Λ' := [.box bx (cellsX e), .box b1 (AI (left - 1 - (szXl (e.l.take 0) : Nat))), .box b2 (closX b1 b2)]) (by rw [hw1]; simp [szXl]) ?_
    refine A.loopP (ι := Nat × Int) (fun p => (⟨[(1, AI deep), (2, .v (.pointer (some ⟨b1, 0, none⟩))), (3, .v (.pointer (some ⟨b2, 0, none⟩))), (36, .sl 6 (encXl e.l) none), (37, AI (e.l.length : Nat)), (38, AI (p.1 : Nat))], []⟩, [.box bx (cellsX e), .box b1 (AI p.2), .box b2 (closX b1 b2)]))
      (fun p => p.1 ≤ e.l.length ∧ fitsXl (e.l.take p.1) (left - 1) (33 - (deep + 1)) ∧ p.2 = left - 1 - (szXl (e.l.take p.1) : Nat)) (fun p => e.l.length - p.1) (0, left - 1 - (szXl (e.l.take 0) : Nat)) ⟨Nat.zero_le _, ?_, rfl⟩ rfl fun p hi ih => ?_
    · refine ⟨rfl, ?_, ?_⟩
      · simp [szXl]; omega
      · simp [htXl]; omega
    obtain ⟨i, lf⟩ := p
    obtain ⟨hi1, hi2, hi3⟩ := hi
    simp only at hi1 hi2 hi3
    have hsz2 := hi2.2.1
    (repeat first|refine A.s rfl ?_|refine A.r rfl rfl ?_|refine A.w rfl rfl ?_|refine A.p rfl ?_|refine A.b rfl fun bx=>?_|refine A.t rfl fun bl=>?_|refine A.step rfl ?_|refine A.v rfl rfl ?_)
    refine A.cond rfl (fun hc => ?_) (fun hc => ?_)
    · simp at hc
      refine Exists.elim (at_exN (l := e.l) (i := i) (by omega)) fun x hx => ?_
      have hxm := List.mem_of_getElem? hx
      have hxs := szXl_le hxm
      have hse := szX_eq e
      have hxe := encX_eq x
      have ihx := visit_p m b1 b2 N x lf (deep + 1) (by omega) (wfXl_mem (wfX_l hw) x hxm) (by omega) (by omega) (by omega) (by omega)
      have htk : e.l.take (i + 1) = e.l.take i ++ [x] := by rw [List.take_add_one, hx]; rfl
      have hsn := fitsXl_snoc (x := x) hi2
      rw [← htk, ← hi3] at hsn
      have eNx := inc_eq i (by omega)
      rw [hxe] at ihx
      (repeat first|refine A.s rfl ?_|refine A.r rfl rfl ?_|refine A.w rfl rfl ?_|refine A.p rfl ?_|refine A.b rfl fun bx=>?_|refine A.t rfl fun bl=>?_)
      refine A.x rfl (by show (0 : Int) ≤ (i : Nat); omega) (encXl_at hx) hxe rfl ?_
      (repeat first|refine A.s rfl ?_|refine A.r rfl rfl ?_|refine A.w rfl rfl ?_|refine A.p rfl ?_|refine A.b rfl fun bx=>?_|refine A.t rfl fun bl=>?_)
      refine A.valE 45 rfl (x' := AI (deep + 1)) (ai_eq hw2) ?_
      refine A.e rfl ihx .refl (List.perm_append_comm (l₁ := [_, _]) (l₂ := [_, _])) fun lf2 hlf2 => ?_
      by_cases hfx : fitsX x lf (33 - (deep + 1))
      · refine A.valE 46 rfl (x' := AB true) (ab_eq (decide_eq_true hfx)) ?_
        (repeat first|refine A.s rfl ?_|refine A.r rfl rfl ?_|refine A.w rfl rfl ?_|refine A.p rfl ?_|refine A.b rfl fun bx=>?_|refine A.t rfl fun bl=>?_)
        refine A.less (Λ' := [.box b1 (AI lf2), .box b2 (closX b1 b2), .box _ (cellsX e)]) (by repeat (first | exact List.Sublist.refl _ | apply List.Sublist.cons_cons | apply List.Sublist.cons)) ?_
        refine A.perm (List.perm_append_comm (l₁ := [_, _]) (l₂ := [_])) ?_
        refine A.valE 38 rfl (x' := AI ((i + 1 : Nat) : Int)) eNx ?_
        refine A.sub (by repeat (first | exact trivial | refine ⟨⟨_, rfl, .refl⟩, ?_⟩)) (ih (i + 1, lf2) ⟨by show i + 1 ≤ _; omega, hsn.2 hfx, ?_⟩ (by show _ - (i + 1) < _ - i; omega))
        show lf2 = left - 1 - (szXl (e.l.take (i + 1)) : Nat)
        rw [hlf2 hfx, htk, szXl_append, hi3]; simp [szXl]; omega
      · have hnf : ¬ fitsX e left (33 - deep) := fun hf => hfx (hsn.1 (fitsXl_take (hfl.1 hf) (i + 1)))
        refine A.valE 46 rfl (x' := AB false) (ab_eq (decide_eq_false hfx)) ?_
        (repeat first|refine A.s rfl ?_|refine A.r rfl rfl ?_|refine A.w rfl rfl ?_|refine A.p rfl ?_|refine A.b rfl fun bx=>?_|refine A.t rfl fun bl=>?_); (refine A.ret1 (Λ' := [.box b1 _, .box b2 _]) rfl rfl rfl (by repeat (first | exact List.Sublist.refl _ | apply List.Sublist.cons_cons | apply List.Sublist.cons)) ⟨_, Sb.eq (ab_eq ?_), rfl, ?_⟩; exact (decide_eq_false hnf).symm; exact fun h => absurd h hnf)
    · simp at hc
      have hil : i = e.l.length := by omega
      rw [hil, List.take_length] at hi2 hi3
      (repeat first|refine A.s rfl ?_|refine A.r rfl rfl ?_|refine A.w rfl rfl ?_|refine A.p rfl ?_|refine A.b rfl fun bx=>?_|refine A.t rfl fun bl=>?_); refine A.ret1 (Λ' := [.box b1 _, .box b2 _]) rfl rfl rfl (by repeat (first | exact List.Sublist.refl _ | apply List.Sublist.cons_cons | apply List.Sublist.cons)) ⟨_, Sb.eq (ab_eq ?_), rfl, ?_⟩
      · exact (decide_eq_true (hfl.2 hi2)).symm
      · intro _; show lf = left - szX e; rw [hi3, szX_eq]; omega
theorem emay_p (m : Int) (e : XE) (hw : wfX e) : Pure Try.prog (gsM m) 19 [encX e] (AB (decide (validX e))) := by
  have hp := fun b1 b2 => visit_p m b1 b2 (szX e) e 256 1 (Nat.le_refl _) hw (by decide) (by decide) (by decide) (by decide)
  simp only [encX_eq e] at hp
  rw [encX_eq]
  refine Pure.of (S := tt) (fn := Try.f19) (n := 9) tt_ok Try.func19 rfl rfl rfl rfl fun w0 h0 F hgs => ?_
  (repeat first|refine A.s rfl ?_|refine A.r rfl rfl ?_|refine A.w rfl rfl ?_|refine A.p rfl ?_|refine A.b rfl fun bx=>?_|refine A.t rfl fun bl=>?_|refine A.step rfl ?_|refine A.v rfl rfl ?_)
  refine A.e rfl (hp _ _) .refl (List.Perm.swap _ _ _) fun lf _ => ?_
  (repeat first|refine A.s rfl ?_|refine A.r rfl rfl ?_|refine A.w rfl rfl ?_|refine A.p rfl ?_|refine A.b rfl fun bx=>?_|refine A.t rfl fun bl=>?_|refine A.step rfl ?_|refine A.v rfl rfl ?_)
  refine A.ret1 (Λ' := []) rfl rfl rfl (List.nil_sublist _) ⟨?_, rfl⟩
  exact .refl
end Go.Proofs.Ytbdjbmbghfbenaa
