/-
  Texts Q16j Q16k Q16l Q16m Q16n Q16o Q16p Q16q, in one. Conditions: as each theorem says.
-/
import Derived.Test.YtgmeahcclogfmaaGreatDoorM2
import Derived.Test.YtgmeahcclogfmaaGreatDoorLg
/-!
  Layer 16: assignments, by the program.
-/
namespace Go.Proofs.YtgmeahcclogfmaaGreatDoor
open Go Go.Tp
set_option linter.unusedVariables false
set_option linter.unusedSimpArgs false
set_option maxRecDepth 100000
set_option maxHeartbeats 4000000
theorem zip_len {α β : Type} {a : List α} {b : List β} (h : a.length = b.length) : (a.zip b).length = a.length := by rw [List.length_zip, h, Nat.min_self]
theorem zip_both {α β : Type} {a : List α} {b : List β} {i : Nat} {x : α} {y : β} (h1 : a[i]? = some x) (h2 : b[i]? = some y) : (a.zip b)[i]? = some (x, y) := List.getElem?_zip_eq_some.2 ⟨h1, h2⟩
theorem assign_no {l : List KV} {t : PL} {e : KE} {r : List (PL × KE)} (h : assignB l t e = false) : ((t, e) :: r).all (fun te => assignB l te.1 te.2) = false := by rw [List.all_cons, h]; rfl
theorem assign_a (l : List KV) (ch : List Int) (p : PR) (x : Nat → AV) (lf : Int) (hs : Pure Tryz.prog gs0 72 [cellsR p, AB false, AB false, twoA 1 8, twoA 1 8, twoA 0 0, twoA 0 0] (AB false)) : Pure Tryz.prog gs0 52 [ckP l ch x lf, cellsR p] (AB false) := by
  refine Pure.of (S := tt) (fn := Tryz.f52) (n := 84) tt_ok Tryz.func52 rfl rfl rfl rfl fun w0 h0 F hgs => ?_
  (repeat first|refine A.s rfl ?_|refine A.r rfl rfl ?_|refine A.w rfl rfl ?_|refine A.b rfl fun bx=>?_); refine A.c rfl hs .refl ?_; (repeat refine A.s rfl ?_); refine A.ret1 (Λ' := []) rfl rfl rfl (List.nil_sublist _) ⟨?_, rfl⟩; exact .refl
theorem assign_b (l : List KV) (ch : List Int) (p : PR) (x : Nat → AV) (lf : Int) (hs : Pure Tryz.prog gs0 72 [cellsR p, AB false, AB false, twoA 1 8, twoA 1 8, twoA 0 0, twoA 0 0] (AB true)) (hle : p.to.length ≠ p.e.length) : Pure Tryz.prog gs0 52 [ckP l ch x lf, cellsR p] (AB false) := by
  have n1 : ((p.to.map encPl).length : Int) = p.to.length := by rw [List.length_map]
  have n2 : ((encKl p.e).length : Int) = p.e.length := by rw [encKl_len]
  refine Pure.of (S := tt) (fn := Tryz.f52) (n := 84) tt_ok Tryz.func52 rfl rfl rfl rfl fun w0 h0 F hgs => ?_
  (repeat first|refine A.s rfl ?_|refine A.r rfl rfl ?_|refine A.w rfl rfl ?_|refine A.b rfl fun bx=>?_); refine A.c rfl hs .refl ?_
  (repeat first|refine A.s rfl ?_|refine A.r rfl rfl ?_)
  refine A.valE 24 rfl (x' := AB true) (ab_eq (by rw [n1, n2]; simp; omega)) ?_
  (repeat refine A.s rfl ?_); refine A.ret1 (Λ' := []) rfl rfl rfl (List.nil_sublist _) ⟨?_, rfl⟩; exact .refl
theorem assign_c (l : List KV) (ch : List Int) (hl : l.length ≤ 281474976710656) (hv : VarsOk l) (p : PR) (hw : WfR p) (x : Nat → AV) (lf : Int) (hs : Pure Tryz.prog gs0 72 [cellsR p, AB false, AB false, twoA 1 8, twoA 1 8, twoA 0 0, twoA 0 0] (AB true)) (hle : p.to.length = p.e.length) (hto8 : p.to.length ≤ 8) (R : Bool) (hR : (p.to.zip p.e).all (fun te => assignB l te.1 te.2) = R) :
    Pure Tryz.prog gs0 52 [ckP l ch x lf, cellsR p] (AB R) := by
  have hlen : ((l.map encV).length : Int) = l.length := by rw [List.length_map]
  have n1 : ((p.to.map encPl).length : Int) = p.to.length := by rw [List.length_map]
  have n2 : ((encKl p.e).length : Int) = p.e.length := by rw [encKl_len]
  refine Pure.of (S := tt) (fn := Tryz.f52) (n := 84) tt_ok Tryz.func52 rfl rfl rfl rfl fun w0 h0 F hgs => ?_
  (repeat first|refine A.s rfl ?_|refine A.r rfl rfl ?_|refine A.w rfl rfl ?_|refine A.b rfl fun bx=>?_); refine A.c rfl hs .refl ?_
  (repeat first|refine A.s rfl ?_|refine A.r rfl rfl ?_)
  refine A.valE 24 rfl (x' := AB false) (ab_eq (by rw [n1, n2]; simp; omega)) ?_
  (repeat first|refine A.s rfl ?_|refine A.r rfl rfl ?_)
  refine A.valE 27 rfl (x' := AI (p.to.length : Nat)) (ai_eq n1) ?_
  refine A.less (Λ' := [.box _ (cellsR p)]) (by repeat (first | exact List.Sublist.refl _ | apply List.Sublist.cons_cons | apply List.Sublist.cons)) ?_
  refine A.keep [0, 3, 26, 27, 28] rfl ?_
  refine A.loopP (ι := Nat) (fun i => (⟨[(0, ckP l ch x lf), (3, .v (.pointer (some ⟨_, 0, none⟩))), (26, plsA p.to), (27, AI (p.to.length : Nat)), (28, AI (i : Nat))], []⟩, [.box _ (cellsR p)]))
    (fun i => i ≤ p.to.length ∧ ((p.to.zip p.e).drop i).all (fun te => assignB l te.1 te.2) = R) (fun i => p.to.length - i) 0 ⟨by omega, hR⟩ rfl fun i hi ih => ?_
  (repeat refine A.s rfl ?_)
  refine A.cond rfl (fun hc => ?_) (fun hc => ?_)
  · simp at hc
    refine Exists.elim (at_exN (l := p.to) (i := i) (by omega)) fun t ht => ?_
    refine Exists.elim (at_exN (l := p.e) (i := i) (by omega)) fun e hee => ?_
    have hwt := hw.to t (List.mem_of_getElem? ht)
    have hwe := hw.e e (List.mem_of_getElem? hee)
    have h1 := hi.2
    rw [drop_at (zip_both ht hee)] at h1
    by_cases hneg : t.v < 0
    · rw [assign_no (by rw [assignB, if_pos (.inl hneg)])] at h1
      (repeat refine A.s rfl ?_)
      refine A.x rfl (by omega) (map_at ht) rfl rfl ?_
      (repeat first|refine A.s rfl ?_|refine A.w rfl rfl ?_|refine A.b rfl fun bx=>?_)
      refine A.draw 47 [0, 1, 2, 3, 4, 5, 6, 7, 8, 9, 10, 11, 12, 13, 14, 15, 16, 17, 18, 19, 20, 21, 22, 23, 24, 25, 26, 27, 28, 29, 30, 31, 32, 33, 34, 35, 36, 37, 38, 39, 40, 41, 42, 43, 44, 45, 46] noPubs [(27, AB false)] (by kernel_rfl) (by kernel_rfl) ?_
      (repeat first|refine WA.s rfl ?_|refine WA.r rfl rfl ?_)
      refine WA.valE 36 rfl (x' := AB true) (ab_eq (by simpa using hneg)) ?_
      (repeat refine WA.s rfl ?_)
      refine WA.nil (l := []) rfl ?_
      (repeat refine A.s rfl ?_); refine A.ret1 (Λ' := []) rfl rfl rfl (List.nil_sublist _) ⟨?_, rfl⟩; rw [← h1]; exact .refl
    by_cases hout : (l.length : Int) ≤ t.v
    · rw [assign_no (by rw [assignB, if_pos (.inr hout)])] at h1
      (repeat refine A.s rfl ?_)
      refine A.x rfl (by omega) (map_at ht) rfl rfl ?_
      (repeat first|refine A.s rfl ?_|refine A.w rfl rfl ?_|refine A.b rfl fun bx=>?_)
      refine A.draw 47 [0, 1, 2, 3, 4, 5, 6, 7, 8, 9, 10, 11, 12, 13, 14, 15, 16, 17, 18, 19, 20, 21, 22, 23, 24, 25, 26, 27, 28, 29, 30, 31, 32, 33, 34, 35, 36, 37, 38, 39, 40, 41, 42, 43, 44, 45, 46] noPubs [(27, AB false)] (by kernel_rfl) (by kernel_rfl) ?_
      (repeat first|refine WA.s rfl ?_|refine WA.r rfl rfl ?_)
      refine WA.valE 36 rfl (x' := AB false) (ab_eq (by simp; omega)) ?_
      (repeat first|refine WA.s rfl ?_|refine WA.r rfl rfl ?_)
      refine WA.valE 47 rfl (x' := AB true) (ab_eq (by rw [hlen]; simpa using hout)) ?_
      (repeat refine WA.s rfl ?_)
      refine WA.nil (l := []) rfl ?_
      (repeat refine A.s rfl ?_); refine A.ret1 (Λ' := []) rfl rfl rfl (List.nil_sublist _) ⟨?_, rfl⟩; rw [← h1]; exact .refl
    refine Exists.elim (at_ex (l := l) (i := t.v) (by omega) (by omega)) fun y hy => ?_
    have hyk := hv y (List.mem_of_getElem? hy)
    have hv0 : (0 : Int) ≤ t.v := by omega
    have hab : assignB l t e = (placeB l t y.kind && fitV l e y.kind) := by rw [assignB, if_neg (by omega), hy]
    have hpl := place_p l ch x lf hl hv t hwt y.kind
    have hft := kfit_p l ch x lf hl hv e hwe y.kind hyk
    generalize placeB l t y.kind = b1 at hpl hab
    generalize fitV l e y.kind = b2 at hft hab
    cases b1 with
    | false =>
      rw [assign_no (by rw [hab]; rfl)] at h1
      (repeat refine A.s rfl ?_)
      refine A.x rfl (by omega) (map_at ht) rfl rfl ?_
      (repeat first|refine A.s rfl ?_|refine A.w rfl rfl ?_|refine A.b rfl fun bx=>?_)
      refine A.draw 47 [0, 1, 2, 3, 4, 5, 6, 7, 8, 9, 10, 11, 12, 13, 14, 15, 16, 17, 18, 19, 20, 21, 22, 23, 24, 25, 26, 27, 28, 29, 30, 31, 32, 33, 34, 35, 36, 37, 38, 39, 40, 41, 42, 43, 44, 45, 46] noPubs [(27, AB false)] (by kernel_rfl) (by kernel_rfl) ?_
      (repeat first|refine WA.s rfl ?_|refine WA.r rfl rfl ?_)
      refine WA.valE 36 rfl (x' := AB false) (ab_eq (by simp; omega)) ?_
      (repeat first|refine WA.s rfl ?_|refine WA.r rfl rfl ?_)
      refine WA.valE 47 rfl (x' := AB false) (ab_eq (by rw [hlen]; simp; omega)) ?_
      (repeat first|refine WA.s rfl ?_|refine WA.r rfl rfl ?_)
      refine WA.x rfl hv0 (map_at hy) rfl rfl ?_
      (repeat refine WA.s rfl ?_)
      refine WA.c rfl rfl hpl (.sub .refl) ?_
      (repeat refine WA.s rfl ?_)
      refine WA.nil (l := []) rfl ?_
      (repeat refine A.s rfl ?_); refine A.ret1 (Λ' := []) rfl rfl rfl (List.nil_sublist _) ⟨?_, rfl⟩; rw [← h1]; exact .refl
    | true =>
      (repeat refine A.s rfl ?_)
      refine A.x rfl (by omega) (map_at ht) rfl rfl ?_
      (repeat first|refine A.s rfl ?_|refine A.w rfl rfl ?_|refine A.b rfl fun bx=>?_)
      refine A.draw 47 [0, 1, 2, 3, 4, 5, 6, 7, 8, 9, 10, 11, 12, 13, 14, 15, 16, 17, 18, 19, 20, 21, 22, 23, 24, 25, 26, 27, 28, 29, 30, 31, 32, 33, 34, 35, 36, 37, 38, 39, 40, 41, 42, 43, 44, 45, 46] noPubs [(27, AB true)] (by kernel_rfl) (by kernel_rfl) ?_
      (repeat first|refine WA.s rfl ?_|refine WA.r rfl rfl ?_)
      refine WA.valE 36 rfl (x' := AB false) (ab_eq (by simp; omega)) ?_
      (repeat first|refine WA.s rfl ?_|refine WA.r rfl rfl ?_)
      refine WA.valE 47 rfl (x' := AB false) (ab_eq (by rw [hlen]; simp; omega)) ?_
      (repeat first|refine WA.s rfl ?_|refine WA.r rfl rfl ?_)
      refine WA.x rfl hv0 (map_at hy) rfl rfl ?_
      (repeat refine WA.s rfl ?_)
      refine WA.c rfl rfl hpl (.sub .refl) ?_
      (repeat first|refine WA.s rfl ?_|refine WA.r rfl rfl ?_)
      refine WA.x rfl (by omega) (encKl_at hee) (encK_eq e) rfl ?_
      (repeat first|refine WA.s rfl ?_|refine WA.r rfl rfl ?_)
      refine WA.x rfl hv0 (map_at hy) rfl rfl ?_
      (repeat refine WA.s rfl ?_)
      refine WA.nil (l := []) rfl ?_
      skip
      refine A.c rfl hft .refl ?_
      (repeat refine A.s rfl ?_)
      refine A.valE 82 rfl (x' := AB (!b2)) (ab_eq (by cases b2 <;> rfl)) ?_
      refine A.cond rfl (fun hc => ?_) (fun hc => ?_)
      · have hf : b2 = false := by simpa using hc
        rw [assign_no (by rw [hab, hf, Bool.and_false])] at h1
        (repeat refine A.s rfl ?_); refine A.ret1 (Λ' := []) rfl rfl rfl (List.nil_sublist _) ⟨?_, rfl⟩; rw [← h1]; exact .refl
      · have hf : b2 = true := by simpa using hc
        rw [List.all_cons] at h1
        have hat : assignB l t e = true := by rw [hab, hf]; rfl
        simp only [hat, Bool.true_and] at h1
        (repeat refine A.s rfl ?_)
        refine A.valE 28 rfl (x' := AI ((i + 1 : Nat) : Int)) (inc_eq i (by omega)) ?_
        refine A.less (Λ' := [.box _ (cellsR p)]) (by repeat (first | exact List.Sublist.refl _ | apply List.Sublist.cons_cons | apply List.Sublist.cons)) ?_
        refine A.sub (by repeat (first | exact trivial | refine ⟨⟨_, rfl, .refl⟩, ?_⟩)) (ih (i + 1) ⟨by omega, h1⟩ (by omega))
  · simp at hc
    have hil : i = p.to.length := by omega
    have h1 := hi.2
    rw [List.drop_eq_nil_of_le (by rw [zip_len hle]; omega), List.all_nil] at h1
    (repeat refine A.s rfl ?_); refine A.ret1 (Λ' := []) rfl rfl rfl (List.nil_sublist _) ⟨?_, rfl⟩; rw [← h1]; exact .refl
theorem assign16_p (l : List KV) (ch : List Int) (hl : l.length ≤ 281474976710656) (hv : VarsOk l) (p : PR) (hw : WfR p) (hk : p.kind = 4) : IsCheck l ch 52 p := fun x lf => by
  have hs := shape_p p false false 1 8 1 8 0 0 0 0
  have he : kindB l ch.length p = (shapeR p false false 1 8 1 8 0 0 0 0 && (p.to.length == p.e.length) && (p.to.zip p.e).all fun te => assignB l te.1 te.2) := by simp [kindB, hk]
  rw [he]
  cases hb : shapeR p false false 1 8 1 8 0 0 0 0 with
  | false => rw [hb] at hs; rw [Bool.false_and, Bool.false_and]; exact assign_a l ch p x lf hs
  | true =>
  rw [hb] at hs
  by_cases hle : p.to.length = p.e.length
  · have e0 : (p.to.length == p.e.length) = true := by simpa using hle
    rw [e0, Bool.true_and, Bool.true_and]
    have hto8 : p.to.length ≤ 8 := by
      simp only [shapeR, inB, Bool.and_eq_true, decide_eq_true_eq] at hb; omega
    exact assign_c l ch hl hv p hw x lf hs hle hto8 _ rfl
  · have e0 : (p.to.length == p.e.length) = false := by simpa using hle
    rw [e0, Bool.true_and, Bool.false_and]
    exact assign_b l ch p x lf hs hle
end Go.Proofs.YtgmeahcclogfmaaGreatDoor
/-!
  Layer 16: the check of a kind, by the program.
-/
namespace Go.Proofs.YtgmeahcclogfmaaGreatDoor
open Go Go.Tp
set_option linter.unusedVariables false
set_option linter.unusedSimpArgs false
set_option maxRecDepth 100000
set_option maxHeartbeats 4000000
def checkF (k : Int) : FuncId := if k = 1 ∨ k = 2 then 50 else if k = 3 then 51 else if k = 4 then 52 else if k = 5 then 53 else if k = 6 then 54
  else if k = 7 then 55 else if k = 8 then 56 else if k = 9 then 57 else if k = 10 then 58 else if k = 11 then 59 else if k = 13 then 61 else 60
theorem kinds15 {k : Int} (h : 1 ≤ k ∧ k ≤ 15) : k = 1 ∨ k = 2 ∨ k = 3 ∨ k = 4 ∨ k = 5 ∨ k = 6 ∨ k = 7 ∨ k = 8 ∨ k = 9 ∨ k = 10 ∨ k = 11 ∨ k = 12 ∨ k = 13 ∨ k = 14 ∨ k = 15 := by omega
theorem check_some (b : Nat) (k : Int) (h : 1 ≤ k ∧ k ≤ 15) : Pure Tryz.prog gs0 42 [ptrA b, AU8 k] (.fn (checkF k) [ptrA b] []) := by
  rcases kinds15 h with rfl | rfl | rfl | rfl | rfl | rfl | rfl | rfl | rfl | rfl | rfl | rfl | rfl | rfl | rfl
  all_goals refine Pure.of (S := tt) (fn := Tryz.f42) (n := 39) tt_ok Tryz.func42 rfl rfl rfl rfl fun w0 h0 F hgs => ?_
  all_goals (repeat refine A.s rfl ?_)
  all_goals refine A.makeMap rfl rfl rfl rfl fun bm => ?_
  all_goals (repeat first|first|refine A.s rfl ?_|refine A.r rfl rfl ?_|refine A.w rfl rfl ?_|refine A.p rfl ?_|refine A.b rfl fun bx=>?_|refine A.t rfl fun bl=>?_|refine A.insert rfl rfl rfl rfl rfl rfl rfl rfl rfl rfl rfl ?_)
  all_goals refine A.lookup rfl rfl rfl rfl rfl rfl rfl rfl rfl rfl rfl rfl ?_
  all_goals ((repeat refine A.s rfl ?_); refine A.ret1 (Λ' := []) rfl rfl rfl (List.nil_sublist _) ⟨?_, rfl⟩; exact .refl)
theorem posK_not {k : Int} (h : ¬ (1 ≤ k ∧ k ≤ 15)) : posK .u8 k [.int .u8 1, .int .u8 2, .int .u8 3, .int .u8 4, .int .u8 5, .int .u8 6, .int .u8 7, .int .u8 8, .int .u8 9, .int .u8 10, .int .u8 11, .int .u8 12, .int .u8 13, .int .u8 14, .int .u8 15] = some none := by
  have e : ∀ m : Int, 1 ≤ m → m ≤ 15 → (k == m) = false := fun m h1 h2 => by
    rw [beq_eq_false_iff_ne]; rintro rfl; exact h ⟨h1, h2⟩
  simp only [posK, decide_true, e 1 (by decide) (by decide), e 2 (by decide) (by decide), e 3 (by decide) (by decide), e 4 (by decide) (by decide), e 5 (by decide) (by decide), e 6 (by decide) (by decide), e 7 (by decide) (by decide), e 8 (by decide) (by decide),
    e 9 (by decide) (by decide), e 10 (by decide) (by decide), e 11 (by decide) (by decide), e 12 (by decide) (by decide), e 13 (by decide) (by decide), e 14 (by decide) (by decide), e 15 (by decide) (by decide)]
theorem check_none (b : Nat) (k : Int) (h : ¬ (1 ≤ k ∧ k ≤ 15)) : Pure Tryz.prog gs0 42 [ptrA b, AU8 k] (.v .nilFunc) := by
  refine Pure.of (S := tt) (fn := Tryz.f42) (n := 39) tt_ok Tryz.func42 rfl rfl rfl rfl fun w0 h0 F hgs => ?_
  (repeat refine A.s rfl ?_)
  refine A.makeMap rfl rfl rfl rfl fun bm => ?_
  (repeat first|first|refine A.s rfl ?_|refine A.r rfl rfl ?_|refine A.w rfl rfl ?_|refine A.p rfl ?_|refine A.b rfl fun bx=>?_|refine A.t rfl fun bl=>?_|refine A.insert rfl rfl rfl rfl rfl rfl rfl rfl rfl rfl rfl ?_)
  refine A.lookupNil (v := .nilFunc) rfl rfl rfl rfl rfl rfl rfl rfl (by kernel_rfl) rfl (posK_not h) rfl rfl ?_
  (repeat refine A.s rfl ?_); refine A.ret1 (Λ' := []) rfl rfl rfl (List.nil_sublist _) ⟨?_, rfl⟩; exact .refl
end Go.Proofs.YtgmeahcclogfmaaGreatDoor
/-!
  Layer 16: which processes are right, with all that is inside them.
-/
namespace Go.Proofs.YtgmeahcclogfmaaGreatDoor
open Go Go.Tp
set_option linter.unusedVariables false
set_option linter.unusedSimpArgs false
set_option maxRecDepth 100000
set_option maxHeartbeats 4000000
section
variable (l : List KV) (n : Nat)
mutual
/-- right, inside the first branch of a PRI PAR or not -/
def okR (high : Bool) : PR → Bool
  | ⟨k, c, v, i, to, e, gs, b⟩ => kindB l n ⟨k, c, v, i, to, e, gs, b⟩ && !(high && k == 11) && okL high (k == 11) b && okGs high gs
def okL (high first : Bool) : List PR → Bool
  | [] => true
  | p :: r => okR (high || first) p && okL high false r
def okG (high : Bool) : GD → Bool
  | ⟨_, _, _, _, _, _, b⟩ => okL high false b
def okGs (high : Bool) : List GD → Bool
  | [] => true
  | g :: r => okG high g && okGs high r
end
end
mutual
def szR : PR → Nat
  | ⟨_, _, _, _, _, _, gs, b⟩ => 1 + szL b + szGs gs
def szL : List PR → Nat
  | [] => 0
  | p :: r => szR p + szL r
def szG : GD → Nat
  | ⟨_, _, _, _, _, _, b⟩ => szL b
def szGs : List GD → Nat
  | [] => 0
  | g :: r => szG g + szGs r
end
mutual
def htR : PR → Nat
  | ⟨_, _, _, _, _, _, gs, b⟩ => 1 + max (htL b) (htGs gs)
def htL : List PR → Nat
  | [] => 0
  | p :: r => max (htR p) (htL r)
def htG : GD → Nat
  | ⟨_, _, _, _, _, _, b⟩ => htL b
def htGs : List GD → Nat
  | [] => 0
  | g :: r => max (htG g) (htGs r)
end
theorem okR_eq (l : List KV) (n : Nat) (high : Bool) (p : PR) : okR l n high p = (kindB l n p && !(high && p.kind == 11) && okL l n high (p.kind == 11) p.l && okGs l n high p.gs) := by obtain ⟨k, c, v, i, to, e, gs, b⟩ := p; rw [okR]
theorem szR_eq (p : PR) : szR p = 1 + szL p.l + szGs p.gs := by obtain ⟨k, c, v, i, to, e, gs, b⟩ := p; rw [szR]
theorem htR_eq (p : PR) : htR p = 1 + max (htL p.l) (htGs p.gs) := by obtain ⟨k, c, v, i, to, e, gs, b⟩ := p; rw [htR]
theorem okG_eq (l : List KV) (n : Nat) (high : Bool) (g : GD) : okG l n high g = okL l n high false g.body := by obtain ⟨k, e, c, i, to, t, b⟩ := g; rw [okG]
theorem szG_eq (g : GD) : szG g = szL g.body := by obtain ⟨k, e, c, i, to, t, b⟩ := g; rw [szG]
theorem htG_eq (g : GD) : htG g = htL g.body := by obtain ⟨k, e, c, i, to, t, b⟩ := g; rw [htG]
theorem szR_pos (p : PR) : 1 ≤ szR p := by rw [szR_eq]; omega
theorem htR_pos (p : PR) : 1 ≤ htR p := by rw [htR_eq]; omega
theorem szL_append (a b : List PR) : szL (a ++ b) = szL a + szL b := by
  induction a with
  | nil => simp [szL]
  | cons x r ih => rw [List.cons_append, szL, szL, ih]; omega
theorem htL_append (a b : List PR) : htL (a ++ b) = max (htL a) (htL b) := by
  induction a with
  | nil => simp [htL]
  | cons x r ih => rw [List.cons_append, htL, htL, ih]; omega
theorem szGs_append (a b : List GD) : szGs (a ++ b) = szGs a + szGs b := by
  induction a with
  | nil => simp [szGs]
  | cons x r ih => rw [List.cons_append, szGs, szGs, ih]; omega
theorem htGs_append (a b : List GD) : htGs (a ++ b) = max (htGs a) (htGs b) := by
  induction a with
  | nil => simp [htGs]
  | cons x r ih => rw [List.cons_append, htGs, htGs, ih]; omega
section
variable {l : List KV} {n : Nat} {high : Bool}
theorem okL_append {first : Bool} {a b : List PR} : okL l n high first (a ++ b) = (okL l n high first a && okL l n high (first && a.isEmpty) b) := by
  induction a generalizing first with
  | nil => simp [okL]
  | cons x r ih => rw [List.cons_append, okL, okL, ih]; simp [Bool.and_assoc]
theorem okGs_append {a b : List GD} : okGs l n high (a ++ b) = (okGs l n high a && okGs l n high b) := by
  induction a with
  | nil => simp [okGs]
  | cons x r ih => rw [List.cons_append, okGs, okGs, ih, Bool.and_assoc]
def fitsR (l : List KV) (n : Nat) (high : Bool) (p : PR) (room deep : Int) : Prop := okR l n high p = true ∧ (szR p : Int) ≤ room ∧ (htR p : Int) ≤ deep
instance (l : List KV) (n : Nat) (high : Bool) (p : PR) (room deep : Int) : Decidable (fitsR l n high p room deep) := by unfold fitsR; infer_instance
def fitsPs (l : List KV) (n : Nat) (high first : Bool) (ps : List PR) (room deep : Int) : Prop := okL l n high first ps = true ∧ (szL ps : Int) ≤ room ∧ (htL ps : Int) ≤ deep
def fitsGs (l : List KV) (n : Nat) (high : Bool) (gs : List GD) (room deep : Int) : Prop := okGs l n high gs = true ∧ (szGs gs : Int) ≤ room ∧ (htGs gs : Int) ≤ deep
theorem fitsR_l {p : PR} {room deep : Int} (hr : 1 ≤ room) (hd : 1 ≤ deep) (hk : kindB l n p = true) (hh : (high && p.kind == 11) = false) :
    fitsR l n high p room deep ↔ fitsPs l n high (p.kind == 11) p.l (room - 1) (deep - 1) ∧ fitsGs l n high p.gs (room - 1 - szL p.l) (deep - 1) := by
  unfold fitsR fitsPs fitsGs
  rw [okR_eq, hk, hh, szR_eq, htR_eq, Bool.not_false, Bool.true_and, Bool.true_and, Bool.and_eq_true]
  constructor
  · rintro ⟨⟨h1, h2⟩, h3, h4⟩; exact ⟨⟨h1, by omega, by omega⟩, h2, by omega, by omega⟩
  · rintro ⟨⟨h1, h3, h4⟩, h2, h5, h6⟩; exact ⟨⟨h1, h2⟩, by omega, by omega⟩
theorem fitsR_no {p : PR} {r d : Int} (h : r < 1 ∨ d < 1 ∨ kindB l n p = false ∨ (high && p.kind == 11) = true) : ¬ fitsR l n high p r d := by
  rintro ⟨h1, h2, h3⟩
  have := szR_pos p
  have := htR_pos p
  rw [okR_eq] at h1
  simp only [Bool.and_eq_true, Bool.not_eq_true'] at h1
  rcases h with h | h | h | h
  · omega
  · omega
  · rw [h1.1.1.1] at h; cases h
  · rw [h1.1.1.2] at h; cases h
theorem fitsPs_snoc {first : Bool} {a : List PR} {x : PR} {room deep : Int} (ha : fitsPs l n high first a room deep) : fitsPs l n high first (a ++ [x]) room deep ↔ fitsR l n (high || (first && a.isEmpty)) x (room - szL a) deep := by
  obtain ⟨h1, h2, h3⟩ := ha
  unfold fitsPs fitsR
  rw [okL_append, szL_append, htL_append, h1, Bool.true_and]
  simp only [okL, szL, htL, Bool.and_true]
  constructor
  · rintro ⟨g1, g2, g3⟩; exact ⟨g1, by omega, by omega⟩
  · rintro ⟨g1, g2, g3⟩; exact ⟨g1, by omega, by omega⟩
theorem fitsPs_take {first : Bool} {ps : List PR} {room deep : Int} (h : fitsPs l n high first ps room deep) (i : Nat) : fitsPs l n high first (ps.take i) room deep := by
  obtain ⟨h1, h2, h3⟩ := h
  rw [← List.take_append_drop i ps] at h1 h2 h3
  rw [okL_append, Bool.and_eq_true] at h1
  rw [szL_append] at h2
  rw [htL_append] at h3
  exact ⟨h1.1, by omega, by omega⟩
theorem fitsGs_snoc {a : List GD} {x : GD} {y : PR} (hx : x.body = [y]) {room deep : Int} (ha : fitsGs l n high a room deep) : fitsGs l n high (a ++ [x]) room deep ↔ fitsR l n high y (room - szGs a) deep := by
  obtain ⟨h1, h2, h3⟩ := ha
  have e1 : okGs l n high [x] = okR l n high y := by rw [okGs, okGs, Bool.and_true, okG_eq, hx, okL, okL, Bool.and_true, Bool.or_false]
  have e2 : szGs [x] = szR y := by rw [szGs, szGs, szG_eq, hx, szL, szL]; omega
  have e3 : htGs [x] = htR y := by rw [htGs, htGs, htG_eq, hx, htL, htL]; omega
  unfold fitsGs fitsR
  rw [okGs_append, szGs_append, htGs_append, h1, Bool.true_and, e1, e2, e3]
  constructor
  · rintro ⟨g1, g2, g3⟩; exact ⟨g1, by omega, by omega⟩
  · rintro ⟨g1, g2, g3⟩; exact ⟨g1, by omega, by omega⟩
theorem fitsGs_take {gs : List GD} {room deep : Int} (h : fitsGs l n high gs room deep) (i : Nat) : fitsGs l n high (gs.take i) room deep := by
  obtain ⟨h1, h2, h3⟩ := h
  rw [← List.take_append_drop i gs] at h1 h2 h3
  rw [okGs_append, Bool.and_eq_true] at h1
  rw [szGs_append] at h2
  rw [htGs_append] at h3
  exact ⟨h1.1, by omega, by omega⟩
theorem szL_le : ∀ {ps : List PR} {x : PR}, x ∈ ps → szR x ≤ szL ps
  | [], _, h => by cases h
  | y :: r, x, h => by
    rw [szL]
    rcases List.mem_cons.1 h with rfl | h
    · omega
    · have := szL_le h; omega
theorem szGs_le : ∀ {gs : List GD} {x : GD}, x ∈ gs → szG x ≤ szGs gs
  | [], _, h => by cases h
  | y :: r, x, h => by
    rw [szGs]
    rcases List.mem_cons.1 h with rfl | h
    · omega
    · have := szGs_le h; omega
theorem inB_0 {m : Nat} (h : inB m 0 0 = true) : m = 0 := by simp only [inB, Bool.and_eq_true, decide_eq_true_eq] at h; omega
theorem kind_bodies {p : PR} (h : kindB l n p = true) : 1 ≤ p.kind ∧ p.kind ≤ 15 ∧ ∀ g, g ∈ p.gs → ∃ y, g.body = [y] := by
  have h0 : ∀ {ch v : Bool} {t1 t2 e1 e2 l1 l2 : Int}, shapeR p ch v t1 t2 e1 e2 0 0 l1 l2 = true → ∀ g, g ∈ p.gs → ∃ y, g.body = [y] := fun hs g hg => by
    simp only [shapeR, Bool.and_eq_true] at hs
    have := inB_0 hs.1.2
    rw [List.length_eq_zero_iff] at this
    rw [this] at hg; cases hg
  unfold kindB at h
  by_cases k0 : p.kind = 1 ∨ p.kind = 2
  · rw [if_pos k0] at h; exact ⟨by omega, by omega, h0 h⟩
  rw [if_neg k0] at h
  by_cases k1 : p.kind = 3
  · rw [if_pos k1, Bool.and_eq_true, Bool.and_eq_true] at h; exact ⟨by omega, by omega, h0 h.1.1⟩
  rw [if_neg k1] at h
  by_cases k2 : p.kind = 4
  · rw [if_pos k2, Bool.and_eq_true, Bool.and_eq_true] at h; exact ⟨by omega, by omega, h0 h.1.1⟩
  rw [if_neg k2] at h
  by_cases k3 : p.kind = 5
  · rw [if_pos k3, Bool.and_eq_true] at h; exact ⟨by omega, by omega, h0 h.1⟩
  rw [if_neg k3] at h
  by_cases k4 : p.kind = 6
  · rw [if_pos k4, Bool.and_eq_true, Bool.and_eq_true] at h; exact ⟨by omega, by omega, h0 h.1.1⟩
  rw [if_neg k4] at h
  by_cases k5 : p.kind = 7
  · rw [if_pos k5, Bool.and_eq_true] at h; exact ⟨by omega, by omega, h0 h.1⟩
  rw [if_neg k5] at h
  by_cases k6 : p.kind = 8
  · rw [if_pos k6, Bool.and_eq_true] at h; exact ⟨by omega, by omega, h0 h.1⟩
  rw [if_neg k6] at h
  by_cases k7 : p.kind = 9
  · rw [if_pos k7] at h; exact ⟨by omega, by omega, h0 h⟩
  rw [if_neg k7] at h
  by_cases k8 : p.kind = 10
  · rw [if_pos k8] at h; exact ⟨by omega, by omega, h0 h⟩
  rw [if_neg k8] at h
  by_cases k9 : p.kind = 11
  · rw [if_pos k9] at h; exact ⟨by omega, by omega, h0 h⟩
  rw [if_neg k9] at h
  by_cases k10 : p.kind = 12 ∨ p.kind = 14 ∨ p.kind = 15
  · rw [if_pos k10, Bool.and_eq_true, List.all_eq_true] at h
    refine ⟨by omega, by omega, fun g hg => ?_⟩
    have := h.2 g hg
    simp only [guardB, Bool.and_eq_true, beq_iff_eq] at this
    have h1 := this.1.1.1
    match hb : g.body, h1 with
    | [y], _ => exact ⟨y, rfl⟩
  rw [if_neg k10] at h
  by_cases k11 : p.kind = 13
  · rw [if_pos k11, Bool.and_eq_true] at h; exact ⟨by omega, by omega, h0 h.1⟩
  rw [if_neg k11] at h
  cases h
end
end Go.Proofs.YtgmeahcclogfmaaGreatDoor
/-!
  Layer 16: process and May, by the program.
-/
namespace Go.Proofs.YtgmeahcclogfmaaGreatDoor
open Go Go.Tp
set_option linter.unusedVariables false
set_option linter.unusedSimpArgs false
set_option maxRecDepth 100000
set_option maxHeartbeats 4000000
section
variable (l : List KV) (ch : List Int) (hl : l.length ≤ 281474976710656) (hv : VarsOk l)
def Lent (f : FuncId) (p : PR) : Prop := ∀ (b : Nat) (x : Nat → AV) (lf : Int), Fun Tryz.prog gs0 f [ptrA b, cellsR p] [.box b (ckA l ch x lf)] fun z Λ' => z = AB (kindB l ch.length p) ∧ Λ' = [.box b (ckA l ch x lf)]
include hl hv
theorem kind_lent (p : PR) (hw : WfR p) (hk : 1 ≤ p.kind ∧ p.kind ≤ 15) : Lent l ch (checkF p.kind) p := fun b x lf => by
  by_cases h1 : p.kind = 1 ∨ p.kind = 2
  · have h := nothing_p l ch p h1
    rw [checkF, if_pos h1]; exact Pure.lend Tryz.func50 rfl rfl (h x lf) rfl (LtL.cons (Lt.box (List.mem_singleton.2 rfl) rfl) (LtL.cons (Lt.sub .refl) LtL.nil))
  rw [checkF, if_neg h1]
  by_cases h3 : p.kind = 3
  · have h := clear_p l ch p h3
    rw [if_pos h3]; exact Pure.lend Tryz.func51 rfl rfl (h x lf) rfl (LtL.cons (Lt.box (List.mem_singleton.2 rfl) rfl) (LtL.cons (Lt.sub .refl) LtL.nil))
  rw [if_neg h3]
  by_cases h4 : p.kind = 4
  · have h := assign16_p l ch hl hv p hw h4
    rw [if_pos h4]; exact Pure.lend Tryz.func52 rfl rfl (h x lf) rfl (LtL.cons (Lt.box (List.mem_singleton.2 rfl) rfl) (LtL.cons (Lt.sub .refl) LtL.nil))
  rw [if_neg h4]
  by_cases h5 : p.kind = 5
  · have h := in16_p l ch hl hv p hw h5
    rw [if_pos h5]; exact Pure.lend Tryz.func53 rfl rfl (h x lf) rfl (LtL.cons (Lt.box (List.mem_singleton.2 rfl) rfl) (LtL.cons (Lt.sub .refl) LtL.nil))
  rw [if_neg h5]
  by_cases h6 : p.kind = 6
  · have h := out16_p l ch hl hv p hw h6
    rw [if_pos h6]; exact Pure.lend Tryz.func54 rfl rfl (h x lf) rfl (LtL.cons (Lt.box (List.mem_singleton.2 rfl) rfl) (LtL.cons (Lt.sub .refl) LtL.nil))
  rw [if_neg h6]
  by_cases h7 : p.kind = 7
  · have h := time16_p l ch hl hv p hw h7
    rw [if_pos h7]; exact Pure.lend Tryz.func55 rfl rfl (h x lf) rfl (LtL.cons (Lt.box (List.mem_singleton.2 rfl) rfl) (LtL.cons (Lt.sub .refl) LtL.nil))
  rw [if_neg h7]
  by_cases h8 : p.kind = 8
  · have h := after16_p l ch hl hv p hw h8
    rw [if_pos h8]; exact Pure.lend Tryz.func56 rfl rfl (h x lf) rfl (LtL.cons (Lt.box (List.mem_singleton.2 rfl) rfl) (LtL.cons (Lt.sub .refl) LtL.nil))
  rw [if_neg h8]
  by_cases h9 : p.kind = 9
  · have h := seq_p l ch p h9
    rw [if_pos h9]; exact Pure.lend Tryz.func57 rfl rfl (h x lf) rfl (LtL.cons (Lt.box (List.mem_singleton.2 rfl) rfl) (LtL.cons (Lt.sub .refl) LtL.nil))
  rw [if_neg h9]
  by_cases h10 : p.kind = 10
  · have h := par_p l ch p h10
    rw [if_pos h10]; exact Pure.lend Tryz.func58 rfl rfl (h x lf) rfl (LtL.cons (Lt.box (List.mem_singleton.2 rfl) rfl) (LtL.cons (Lt.sub .refl) LtL.nil))
  rw [if_neg h10]
  by_cases h11 : p.kind = 11
  · have h := pri_p l ch p h11
    rw [if_pos h11]; exact Pure.lend Tryz.func59 rfl rfl (h x lf) rfl (LtL.cons (Lt.box (List.mem_singleton.2 rfl) rfl) (LtL.cons (Lt.sub .refl) LtL.nil))
  rw [if_neg h11]
  by_cases h13 : p.kind = 13
  · have h := loop16_p l ch hl hv p hw h13
    rw [if_pos h13]; exact Pure.lend Tryz.func61 rfl rfl (h x lf) rfl (LtL.cons (Lt.box (List.mem_singleton.2 rfl) rfl) (LtL.cons (Lt.sub .refl) LtL.nil))
  rw [if_neg h13]
  have h := choice16_p l ch hl hv p hw (by omega)
  exact Pure.lend Tryz.func60 rfl rfl (h x lf) rfl (LtL.cons (Lt.box (List.mem_singleton.2 rfl) rfl) (LtL.cons (Lt.sub .refl) LtL.nil))
end
abbrev procE (l : List KV) (ch : List Int) (x : Nat → AV) (b : Nat) (p : PR) (deep : Int) (high : Bool) (left : Int) : Prop :=
  FunE Tryz.prog gs0 29 [ptrA b, cellsR p, AI deep, AB high] [.box b (ckA l ch x left)] (fun _ : Int => AB (decide (fitsR l ch.length high p left (33 - deep)))) (fun i => [.box b (ckA l ch x i)]) (fun i => fitsR l ch.length high p left (33 - deep) → i = left - szR p)
theorem proc_a (l : List KV) (ch : List Int) (x : Nat → AV) (b : Nat) (p : PR) (deep : Int) (high : Bool) (left : Int) (h : left = 0 ∨ deep = 33) (r0 : 0 ≤ left) (r1 : left ≤ 2048) (f : AV) (hck : Pure Tryz.prog gs0 42 [ptrA b, AU8 p.kind] f) : procE l ch x b p deep high left := by
  have hw1 : IntKind.i64.wrap (left - 1) = left - 1 := wr64 _ (by omega)
  have hnf : ¬ fitsR l ch.length high p left (33 - deep) := fitsR_no (by omega)
  unfold procE FunE
  refine Fun.of (S := tt) (fn := Tryz.f29) (n := 95) tt_ok Tryz.func29 rfl rfl rfl rfl fun w0 h0 F hgs => ?_
  (repeat first|refine A.s rfl ?_|refine A.r rfl rfl ?_|refine A.w rfl rfl ?_|refine A.b rfl fun bx=>?_)
  refine A.c rfl hck .refl ?_
  (repeat first|refine A.s rfl ?_|refine A.r rfl rfl ?_)
  refine A.valE 30 rfl (x' := AB (decide (left = 0))) (ab_eq (by rw [hw1, Bool.eq_iff_iff]; simp; omega)) ?_
  by_cases hz : left = 0
  · refine A.valE 30 rfl (x' := AB true) (ab_eq (by simpa using hz)) ?_
    (repeat refine A.s rfl ?_)
    (refine A.ret1 (Λ' := [.box b _]) rfl rfl rfl (by repeat (first | exact List.Sublist.refl _ | apply List.Sublist.cons_cons | apply List.Sublist.cons)) ⟨_, Sb.eq (ab_eq ?_), rfl, ?_⟩; exact (decide_eq_false hnf).symm; exact fun h => absurd h hnf)
  · refine A.valE 30 rfl (x' := AB false) (ab_eq (by simpa using hz)) ?_
    (repeat refine A.s rfl ?_)
    refine A.valE 34 rfl (x' := AB true) (ab_eq (by simp; omega)) ?_
    (repeat refine A.s rfl ?_)
    (refine A.ret1 (Λ' := [.box b _]) rfl rfl rfl (by repeat (first | exact List.Sublist.refl _ | apply List.Sublist.cons_cons | apply List.Sublist.cons)) ⟨_, Sb.eq (ab_eq ?_), rfl, ?_⟩; exact (decide_eq_false hnf).symm; exact fun h => absurd h hnf)
theorem proc_b (l : List KV) (ch : List Int) (x : Nat → AV) (b : Nat) (p : PR) (deep : Int) (high : Bool) (left : Int) (r0 : 1 ≤ left) (r1 : left ≤ 2048) (d0 : 1 ≤ deep) (d1 : deep ≤ 32) (hck : Pure Tryz.prog gs0 42 [ptrA b, AU8 p.kind] (.v .nilFunc)) (hno : kindB l ch.length p = false) : procE l ch x b p deep high left := by
  have hw1 : IntKind.i64.wrap (left - 1) = left - 1 := wr64 _ (by omega)
  have hnf : ¬ fitsR l ch.length high p left (33 - deep) := fitsR_no (.inr (.inr (.inl hno)))
  unfold procE FunE
  refine Fun.of (S := tt) (fn := Tryz.f29) (n := 95) tt_ok Tryz.func29 rfl rfl rfl rfl fun w0 h0 F hgs => ?_
  (repeat first|refine A.s rfl ?_|refine A.r rfl rfl ?_|refine A.w rfl rfl ?_|refine A.b rfl fun bx=>?_)
  refine A.c rfl hck .refl ?_
  (repeat first|refine A.s rfl ?_|refine A.r rfl rfl ?_)
  refine A.valE 30 rfl (x' := AB false) (ab_eq (by rw [hw1]; simp; omega)) ?_
  (repeat refine A.s rfl ?_)
  refine A.valE 34 rfl (x' := AB false) (ab_eq (by simp; omega)) ?_
  (repeat refine A.s rfl ?_)
  (refine A.ret1 (Λ' := [.box b _]) rfl rfl rfl (by repeat (first | exact List.Sublist.refl _ | apply List.Sublist.cons_cons | apply List.Sublist.cons)) ⟨_, Sb.eq (ab_eq ?_), rfl, ?_⟩; exact (decide_eq_false hnf).symm; exact fun h => absurd h hnf)
theorem proc_c (l : List KV) (ch : List Int) (x : Nat → AV) (b : Nat) (p : PR) (deep : Int) (high : Bool) (left : Int) (r0 : 1 ≤ left) (r1 : left ≤ 2048) (d0 : 1 ≤ deep) (d1 : deep ≤ 32) (f : FuncId) (hck : Pure Tryz.prog gs0 42 [ptrA b, AU8 p.kind] (.fn f [ptrA b] [])) (hle : Lent l ch f p) (hno : kindB l ch.length p = false) : procE l ch x b p deep high left := by
  have hw1 : IntKind.i64.wrap (left - 1) = left - 1 := wr64 _ (by omega)
  have hnf : ¬ fitsR l ch.length high p left (33 - deep) := fitsR_no (.inr (.inr (.inl hno)))
  have hl1 := hle b x (IntKind.i64.wrap (left - 1))
  rw [hno] at hl1
  unfold procE FunE
  refine Fun.of (S := tt) (fn := Tryz.f29) (n := 95) tt_ok Tryz.func29 rfl rfl rfl rfl fun w0 h0 F hgs => ?_
  (repeat first|refine A.s rfl ?_|refine A.r rfl rfl ?_|refine A.w rfl rfl ?_|refine A.b rfl fun bx=>?_)
  refine A.c rfl hck .refl ?_
  (repeat first|refine A.s rfl ?_|refine A.r rfl rfl ?_)
  refine A.valE 30 rfl (x' := AB false) (ab_eq (by rw [hw1]; simp; omega)) ?_
  (repeat refine A.s rfl ?_)
  refine A.valE 34 rfl (x' := AB false) (ab_eq (by simp; omega)) ?_
  (repeat first|refine A.s rfl ?_|refine A.r rfl rfl ?_)
  refine A.d rfl hl1 .refl (List.Perm.swap _ _ _) ?_
  (repeat refine A.s rfl ?_)
  (refine A.ret1 (Λ' := [.box b _]) rfl rfl rfl (by repeat (first | exact List.Sublist.refl _ | apply List.Sublist.cons_cons | apply List.Sublist.cons)) ⟨_, Sb.eq (ab_eq ?_), rfl, ?_⟩; exact (decide_eq_false hnf).symm; exact fun h => absurd h hnf)
theorem proc_d (l : List KV) (ch : List Int) (x : Nat → AV) (b : Nat) (p : PR) (deep : Int) (left : Int) (r0 : 1 ≤ left) (r1 : left ≤ 2048) (d0 : 1 ≤ deep) (d1 : deep ≤ 32) (f : FuncId) (hck : Pure Tryz.prog gs0 42 [ptrA b, AU8 p.kind] (.fn f [ptrA b] [])) (hle : Lent l ch f p) (hyes : kindB l ch.length p = true) (hk : p.kind = 11) : procE l ch x b p deep true left := by
  have hw1 : IntKind.i64.wrap (left - 1) = left - 1 := wr64 _ (by omega)
  have hnf : ¬ fitsR l ch.length true p left (33 - deep) := fitsR_no (.inr (.inr (.inr (by simpa using hk))))
  have hl1 := hle b x (IntKind.i64.wrap (left - 1))
  rw [hyes] at hl1
  unfold procE FunE
  refine Fun.of (S := tt) (fn := Tryz.f29) (n := 95) tt_ok Tryz.func29 rfl rfl rfl rfl fun w0 h0 F hgs => ?_
  (repeat first|refine A.s rfl ?_|refine A.r rfl rfl ?_|refine A.w rfl rfl ?_|refine A.b rfl fun bx=>?_)
  refine A.c rfl hck .refl ?_
  (repeat first|refine A.s rfl ?_|refine A.r rfl rfl ?_)
  refine A.valE 30 rfl (x' := AB false) (ab_eq (by rw [hw1]; simp; omega)) ?_
  (repeat refine A.s rfl ?_)
  refine A.valE 34 rfl (x' := AB false) (ab_eq (by simp; omega)) ?_
  (repeat first|refine A.s rfl ?_|refine A.r rfl rfl ?_)
  refine A.d rfl hl1 .refl (List.Perm.swap _ _ _) ?_
  (repeat first|refine A.s rfl ?_|refine A.r rfl rfl ?_)
  refine A.valE 51 rfl (x' := AB true) (ab_eq (by simpa using hk)) ?_
  (repeat refine A.s rfl ?_)
  (refine A.ret1 (Λ' := [.box b _]) rfl rfl rfl (by repeat (first | exact List.Sublist.refl _ | apply List.Sublist.cons_cons | apply List.Sublist.cons)) ⟨_, Sb.eq (ab_eq ?_), rfl, ?_⟩; exact (decide_eq_false hnf).symm; exact fun h => absurd h hnf)
theorem take_empty {α : Type} {a : List α} {i : Nat} (h : i < a.length) : (a.take i).isEmpty = decide (i = 0) := by
  rw [Bool.eq_iff_iff, List.isEmpty_iff, List.take_eq_nil_iff]; simp
  rintro rfl; simp at h
theorem proc_e (l : List KV) (ch : List Int) (x : Nat → AV) (b : Nat) (p : PR) (hwf : wfR p) (deep : Int) (high : Bool) (left : Int) (r0 : 1 ≤ left) (r1 : left ≤ 2048) (d0 : 1 ≤ deep) (d1 : deep ≤ 32) (f : FuncId) (hck : Pure Tryz.prog gs0 42 [ptrA b, AU8 p.kind] (.fn f [ptrA b] [])) (hle : Lent l ch f p) (hyes : kindB l ch.length p = true) (hh : (high && p.kind == 11) = false)
    (ih0 : ∀ (y : PR) (hi : Bool) (lf : Int), wfR y → szR y < szR p → 0 ≤ lf → lf ≤ 2048 → procE l ch x b y (deep + 1) hi lf) : procE l ch x b p deep high left := by
  have hw1 : IntKind.i64.wrap (left - 1) = left - 1 := wr64 _ (by omega)
  have hw2 : IntKind.i64.wrap (deep + 1) = deep + 1 := wr64 _ (by omega)
  have hwa := wfR_all hwf
  have hl1 := hle b x (left - 1)
  rw [hyes] at hl1
  have hbod := (kind_bodies hyes).2.2
  have hfl := fitsR_l (high := high) (p := p) (room := left) (deep := 33 - deep) r0 (by omega) hyes hh
  rw [show 33 - deep - 1 = 33 - (deep + 1) by omega] at hfl
  have hse := szR_eq p
  have n1 : ((encRl p.l).length : Int) = p.l.length := by rw [encRl_len]
  have n2 : ((encGl p.gs).length : Int) = p.gs.length := by rw [encGl_len]
  unfold procE FunE
  refine Fun.of (S := tt) (fn := Tryz.f29) (n := 95) tt_ok Tryz.func29 rfl rfl rfl rfl fun w0 h0 F hgs => ?_
  (repeat first|refine A.s rfl ?_|refine A.r rfl rfl ?_|refine A.w rfl rfl ?_|refine A.b rfl fun bx=>?_)
  refine A.c rfl hck .refl ?_
  (repeat first|refine A.s rfl ?_|refine A.r rfl rfl ?_)
  refine A.valE 30 rfl (x' := AB false) (ab_eq (by rw [hw1]; simp; omega)) ?_
  (repeat refine A.s rfl ?_)
  refine A.valE 34 rfl (x' := AB false) (ab_eq (by simp; omega)) ?_
  (repeat first|refine A.s rfl ?_|refine A.r rfl rfl ?_)
  refine A.entsEq (Λ' := [.box _ (cellsR p), .box b (ckA l ch x (left - 1))]) (by rw [hw1]) ?_
  refine A.d rfl hl1 .refl (List.Perm.swap _ _ _) ?_
  (repeat first|refine A.s rfl ?_|refine A.step rfl ?_|refine A.v rfl rfl ?_)
  refine A.valE 51 rfl (x' := AB false) (ab_eq (by revert hh; cases high <;> simp)) ?_
  (repeat first|refine A.s rfl ?_|refine A.r rfl rfl ?_)
  refine A.valE 54 rfl (x' := AI (p.l.length : Nat)) (ai_eq n1) ?_
  refine A.keep [0, 2, 3, 5, 53, 54, 55] rfl ?_
  refine A.loopP (ι := Nat × Int) (fun q => (⟨[(0, ptrA b), (2, AI deep), (3, AB high), (5, ptrA _), (53, rsA p.l), (54, AI (p.l.length : Nat)), (55, AI (q.1 : Nat))], []⟩, [.box b (ckA l ch x q.2), .box _ (cellsR p)]))
    (fun q => q.1 ≤ p.l.length ∧ fitsPs l ch.length high (p.kind == 11) (p.l.take q.1) (left - 1) (33 - (deep + 1)) ∧ q.2 = left - 1 - (szL (p.l.take q.1) : Nat)) (fun q => p.l.length - q.1) (0, left - 1) ⟨Nat.zero_le _, ⟨by simp [okL], by simp [szL]; omega, by simp [htL]; omega⟩, by simp [szL]⟩ rfl fun q hi ih => ?_
  obtain ⟨i, lf⟩ := q
  obtain ⟨hi1, hi2, hi3⟩ := hi
  simp only at hi1 hi2 hi3
  have hsz2 := hi2.2.1
  (repeat refine A.s rfl ?_)
  refine A.cond rfl (fun hc => ?_) (fun hc => ?_)
  · simp at hc
    refine Exists.elim (at_exN (l := p.l) (i := i) (by omega)) fun y hy => ?_
    have hym := List.mem_of_getElem? hy
    have htk : p.l.take (i + 1) = p.l.take i ++ [y] := by rw [List.take_add_one, hy]; rfl
    have hsn := fitsPs_snoc (x := y) hi2
    rw [← htk, ← hi3, take_empty (by omega)] at hsn
    have ihy := ih0 y (high || ((p.kind == 11) && decide (i = 0))) lf ((wfR_all (by exact hwf)).l y hym) (by have := szL_le hym; omega) (by omega) (by omega)
    unfold procE at ihy
    have e0 : (((i : Nat) : Int) == 0) = decide (i = 0) := by rw [Bool.eq_iff_iff]; simp
    (repeat refine A.s rfl ?_)
    refine A.x rfl (by show (0 : Int) ≤ (i : Nat); omega) (encRl_at hy) (encR_eq y) rfl ?_
    (repeat first|refine A.s rfl ?_|refine A.r rfl rfl ?_|refine A.w rfl rfl ?_|refine A.b rfl fun bx=>?_|refine A.step rfl ?_|refine A.v rfl rfl ?_)
    refine A.valE 63 rfl (x' := AI (deep + 1)) (ai_eq hw2) ?_
    refine A.valE 73 rfl (x' := AB (high || ((p.kind == 11) && decide (i = 0)))) (ab_eq (by rw [e0]; clear ih ihy hsn; generalize (p.kind == 11) = b11; cases high <;> cases b11 <;> simp)) ?_
    refine A.e rfl ihy .refl (List.Perm.swap _ _ _) fun lf2 hlf2 => ?_
    by_cases hfx : fitsR l ch.length (high || ((p.kind == 11) && decide (i = 0))) y lf (33 - (deep + 1))
    · refine A.valE 74 rfl (x' := AB true) (ab_eq (decide_eq_true hfx)) ?_
      (repeat refine A.s rfl ?_)
      refine A.less (Λ' := [.box b (ckA l ch x lf2), .box _ (cellsR p)]) (by repeat (first | exact List.Sublist.refl _ | apply List.Sublist.cons_cons | apply List.Sublist.cons)) ?_
      refine A.valE 55 rfl (x' := AI ((i + 1 : Nat) : Int)) (inc_eq i (by have := hwa.ll; omega)) ?_
      refine A.sub (by repeat (first | exact trivial | refine ⟨⟨_, rfl, .refl⟩, ?_⟩)) (ih (i + 1, lf2) ⟨by show i + 1 ≤ _; omega, hsn.2 hfx, ?_⟩ (by show _ - (i + 1) < _ - i; omega))
      show lf2 = left - 1 - (szL (p.l.take (i + 1)) : Nat)
      rw [hlf2 hfx, htk, szL_append, hi3]; simp [szL]; omega
    · have hnf : ¬ fitsR l ch.length high p left (33 - deep) := fun hf => hfx (hsn.1 (fitsPs_take (hfl.1 hf).1 (i + 1)))
      refine A.valE 74 rfl (x' := AB false) (ab_eq (decide_eq_false hfx)) ?_
      (repeat refine A.s rfl ?_)
      (refine A.ret1 (Λ' := [.box b _]) rfl rfl rfl (by repeat (first | exact List.Sublist.refl _ | apply List.Sublist.cons_cons | apply List.Sublist.cons)) ⟨_, Sb.eq (ab_eq ?_), rfl, ?_⟩; exact (decide_eq_false hnf).symm; exact fun h => absurd h hnf)
  simp at hc
  have hil : i = p.l.length := by omega
  rw [hil, List.take_length] at hi2 hi3
  have hszl := hi2.2.1
  (repeat first|refine A.s rfl ?_|refine A.r rfl rfl ?_)
  refine A.valE 79 rfl (x' := AI (p.gs.length : Nat)) (ai_eq n2) ?_
  refine A.keep [0, 2, 3, 5, 78, 79, 80] rfl ?_
  refine A.loopP (ι := Nat × Int) (fun q => (⟨[(0, ptrA b), (2, AI deep), (3, AB high), (5, ptrA _), (78, gsA p.gs), (79, AI (p.gs.length : Nat)), (80, AI (q.1 : Nat))], []⟩, [.box b (ckA l ch x q.2), .box _ (cellsR p)]))
    (fun q => q.1 ≤ p.gs.length ∧ fitsGs l ch.length high (p.gs.take q.1) (left - 1 - (szL p.l : Nat)) (33 - (deep + 1)) ∧ q.2 = left - 1 - (szL p.l : Nat) - (szGs (p.gs.take q.1) : Nat)) (fun q => p.gs.length - q.1) (0, lf) ⟨Nat.zero_le _, ⟨by simp [okGs], by simp [szGs]; omega, by simp [htGs]; omega⟩, by simp [szGs]; omega⟩ rfl fun q hj jh => ?_
  obtain ⟨j, lg⟩ := q
  obtain ⟨hj1, hj2, hj3⟩ := hj
  simp only at hj1 hj2 hj3
  have hsz3 := hj2.2.1
  (repeat refine A.s rfl ?_)
  refine A.cond rfl (fun hc => ?_) (fun hc => ?_)
  · simp at hc
    refine Exists.elim (at_exN (l := p.gs) (i := j) (by omega)) fun g hg => ?_
    have hgm := List.mem_of_getElem? hg
    refine Exists.elim (hbod g hgm) fun y hy => ?_
    have htk : p.gs.take (j + 1) = p.gs.take j ++ [g] := by rw [List.take_add_one, hg]; rfl
    have hsn := fitsGs_snoc hy hj2
    rw [← htk, ← hj3] at hsn
    have hszy : szR y ≤ szGs p.gs := by have := szGs_le hgm; rw [szG_eq, hy, szL, szL] at this; omega
    have ihy := ih0 y high lg ((wfG_all (hwa.g g hgm)).body y (by rw [hy]; exact List.mem_cons_self ..)) (by omega) (by omega) (by omega)
    unfold procE at ihy
    (repeat refine A.s rfl ?_)
    refine A.x rfl (by show (0 : Int) ≤ (j : Nat); omega) (encGl_at hg) (encG_eq g) rfl ?_
    (repeat first|refine A.s rfl ?_|refine A.r rfl rfl ?_|refine A.w rfl rfl ?_|refine A.b rfl fun bx=>?_)
    refine A.x rfl (by decide) (show (encRl g.body)[(0 : Int).toNat]? = some (encR y) from encRl_at (by rw [hy]; rfl)) (encR_eq y) rfl ?_
    (repeat refine A.s rfl ?_)
    refine A.valE 90 rfl (x' := AI (deep + 1)) (ai_eq hw2) ?_
    refine A.e rfl ihy .refl (List.Perm.swap _ _ _) fun lf2 hlf2 => ?_
    by_cases hfx : fitsR l ch.length high y lg (33 - (deep + 1))
    · refine A.valE 92 rfl (x' := AB true) (ab_eq (decide_eq_true hfx)) ?_
      (repeat refine A.s rfl ?_)
      refine A.less (Λ' := [.box b (ckA l ch x lf2), .box _ (cellsR p)]) (by repeat (first | exact List.Sublist.refl _ | apply List.Sublist.cons_cons | apply List.Sublist.cons)) ?_
      refine A.valE 80 rfl (x' := AI ((j + 1 : Nat) : Int)) (inc_eq j (by have := hwa.gl; omega)) ?_
      refine A.sub (by repeat (first | exact trivial | refine ⟨⟨_, rfl, .refl⟩, ?_⟩)) (jh (j + 1, lf2) ⟨by show j + 1 ≤ _; omega, hsn.2 hfx, ?_⟩ (by show _ - (j + 1) < _ - j; omega))
      show lf2 = left - 1 - (szL p.l : Nat) - (szGs (p.gs.take (j + 1)) : Nat)
      have e2 : szGs [g] = szR y := by rw [szGs, szGs, szG_eq, hy, szL, szL]; omega
      rw [hlf2 hfx, htk, szGs_append, hj3, e2]; omega
    · have hnf : ¬ fitsR l ch.length high p left (33 - deep) := fun hf => hfx (hsn.1 (fitsGs_take (hfl.1 hf).2 (j + 1)))
      refine A.valE 92 rfl (x' := AB false) (ab_eq (decide_eq_false hfx)) ?_
      (repeat refine A.s rfl ?_)
      (refine A.ret1 (Λ' := [.box b _]) rfl rfl rfl (by repeat (first | exact List.Sublist.refl _ | apply List.Sublist.cons_cons | apply List.Sublist.cons)) ⟨_, Sb.eq (ab_eq ?_), rfl, ?_⟩; exact (decide_eq_false hnf).symm; exact fun h => absurd h hnf)
  simp at hc
  have hjl : j = p.gs.length := by omega
  rw [hjl, List.take_length] at hj2 hj3
  (repeat refine A.s rfl ?_)
  refine A.ret1 (Λ' := [.box b _]) rfl rfl rfl (by repeat (first | exact List.Sublist.refl _ | apply List.Sublist.cons_cons | apply List.Sublist.cons)) ⟨_, Sb.eq (ab_eq ?_), rfl, ?_⟩
  · exact (decide_eq_true (hfl.2 ⟨hi2, hj2⟩)).symm
  · intro _; show lg = left - szR p; omega
end Go.Proofs.YtgmeahcclogfmaaGreatDoor
/-!
  Layer 16: May, by the program.
-/
namespace Go.Proofs.YtgmeahcclogfmaaGreatDoor
open Go Go.Tp
set_option linter.unusedVariables false
set_option linter.unusedSimpArgs false
set_option maxRecDepth 100000
set_option maxHeartbeats 4000000
theorem process_p (l : List KV) (ch : List Int) (hl : l.length ≤ 281474976710656) (hv : VarsOk l) (x : Nat → AV) (b : Nat) : ∀ (N : Nat) (p : PR) (deep : Int) (high : Bool) (left : Int), szR p ≤ N → wfR p → 0 ≤ left → left ≤ 2048 → 1 ≤ deep → deep ≤ 33 → procE l ch x b p deep high left
  | 0, p, _, _, _, hn, _, _, _, _, _ => by have := szR_pos p; omega
  | N + 1, p, deep, high, left, hn, hw, r0, r1, d0, d1 => by
    by_cases hk : 1 ≤ p.kind ∧ p.kind ≤ 15
    · have hck := check_some b p.kind hk
      by_cases hz : left = 0 ∨ deep = 33
      · exact proc_a l ch x b p deep high left hz r0 r1 _ hck
      have hle := kind_lent l ch hl hv p (wfR_all hw) hk
      cases hkb : kindB l ch.length p with
      | false => exact proc_c l ch x b p deep high left (by omega) r1 d0 (by omega) _ hck hle hkb
      | true =>
        cases hh : (high && p.kind == 11) with
        | true =>
          simp only [Bool.and_eq_true, beq_iff_eq] at hh
          rw [hh.1]
          exact proc_d l ch x b p deep left (by omega) r1 d0 (by omega) _ hck hle hkb hh.2
        | false => exact proc_e l ch x b p hw deep high left (by omega) r1 d0 (by omega) _ hck hle hkb hh fun y hi lf hwy hsz l0 l1 => process_p l ch hl hv x b N y (deep + 1) hi lf (by omega) hwy l0 l1 (by omega) (by omega)
    · have hck := check_none b p.kind hk
      have hno : kindB l ch.length p = false := by
        cases h : kindB l ch.length p with
        | false => rfl
        | true => have := kind_bodies h; exact (hk ⟨this.1, this.2.1⟩).elim
      by_cases hz : left = 0 ∨ deep = 33
      · exact proc_a l ch x b p deep high left hz r0 r1 _ hck
      · exact proc_b l ch x b p deep high left (by omega) r1 d0 (by omega) hck hno
/-! ### lists of numbers -/
abbrev intsA (l : List Int) : AV := .sl 1 (l.map AI) none
def idxI (v : Int) (l : List Int) (i : Nat) : Int := idxF (fun x => v == x) l i
theorem index_p (l : List Int) (v : Int) (hb : l.length ≤ 281474976710656) : Pure Tryz.prog gs0 41 [intsA l, AI v] (AI (idxI v l 0)) := by
  refine Pure.of (S := tt) (fn := Tryz.f41) (n := 19) tt_ok Tryz.func41 rfl rfl rfl rfl fun w0 h0 F hgs => ?_
  (repeat refine A.s rfl ?_)
  refine A.valE 7 rfl (x' := AI (l.length : Nat)) (ai_eq (by rw [List.length_map])) ?_
  refine A.keep [0, 1, 7, 8] rfl ?_
  refine A.loopP (ι := Nat) (fun i => (⟨[(0, intsA l), (1, AI v), (7, AI (l.length : Nat)), (8, AI (i : Int))], []⟩, [])) (fun i => i ≤ l.length ∧ idxI v l 0 = idxI v (l.drop i) i) (fun i => l.length - i) 0 ⟨by omega, rfl⟩ rfl fun i hi ih => ?_
  (repeat refine A.s rfl ?_)
  refine A.cond rfl (fun hc => ?_) (fun hc => ?_)
  · simp at hc
    refine Exists.elim (at_exN (l := l) (i := i) hc) fun x hx => ?_
    have h1 : idxI v l 0 = if (v == x) = true then (i : Int) else idxI v (l.drop (i + 1)) (i + 1) := by rw [hi.2, drop_at hx]; rfl
    (repeat refine A.s rfl ?_)
    refine A.x rfl (by omega) (map_at hx) rfl rfl ?_
    (repeat refine A.s rfl ?_)
    refine A.cond rfl (fun hc => ?_) (fun hc => ?_)
    · rw [hc, if_pos rfl] at h1
      (repeat refine A.s rfl ?_); refine A.ret1 (Λ' := []) rfl rfl rfl (List.nil_sublist _) ⟨?_, rfl⟩; rw [h1]; exact .refl
    · rw [hc, if_neg (by simp)] at h1
      (repeat refine A.s rfl ?_)
      refine A.valE 8 rfl (x' := AI ((i + 1 : Nat) : Int)) (inc_eq i (by omega)) ?_
      refine A.sub (by repeat (first | exact trivial | refine ⟨⟨_, rfl, .refl⟩, ?_⟩)) (ih (i + 1) ⟨by omega, h1⟩ (by omega))
  · simp at hc
    have : i = l.length := by omega
    subst this
    (repeat refine A.s rfl ?_); refine A.ret1 (Λ' := []) rfl rfl rfl (List.nil_sublist _) ⟨?_, rfl⟩; rw [hi.2, List.drop_length]; exact .refl
theorem contains_p (l : List Int) (v : Int) (hb : l.length ≤ 281474976710656) : Pure Tryz.prog gs0 27 [intsA l, AI v] (AB (l.contains v)) := by
  refine Pure.of (S := tt) (fn := Tryz.f27) (n := 9) tt_ok Tryz.func27 rfl rfl rfl rfl fun w0 h0 F hgs => ?_
  (repeat refine A.s rfl ?_)
  refine A.c rfl (index_p l v hb) .refl ?_
  (repeat refine A.s rfl ?_); refine A.ret1 (Λ' := []) rfl rfl rfl (List.nil_sublist _) ⟨?_, rfl⟩; refine Sb.eq (ab_eq ?_)
  rw [idxI, idxF_any, List.contains_eq_any_beq]
/-! ### kernels -/
structure KN where
  vars : List KV
  chans : List Int
  root : PR
  procs : List Int
abbrev encN (k : KN) : AV := .ag [varsA k.vars, chsA k.chans, AU8 k.root.kind, AI k.root.c, AI k.root.v, AU8 k.root.item, plsA k.root.to, kesA k.root.e, gsA k.root.gs, rsA k.root.l, intsA k.procs]
structure WfN (k : KN) : Prop where
  vars : k.vars.length ≤ 281474976710656
  chans : k.chans.length ≤ 281474976710656
  procs : k.procs.length ≤ 281474976710656
  root : wfR k.root
def okPr : List Int → List Int → Bool
  | _, [] => true
  | seen, n :: r => decide (0 ≤ n) && decide (n < 8) && !seen.contains n && okPr (seen ++ [n]) r
def varOk (v : KV) : Bool := primB v.kind && decide (0 ≤ v.dim) && decide (v.dim ≤ 64)
def wantH (i : Nat) : Int := if i = 0 then 1 else if i = 1 then 2 else 0
def okCh : Nat → List Int → Bool
  | _, [] => true
  | i, h :: r => h == wantH i && okCh (i + 1) r
def lensK (k : KN) : Bool := decide (k.vars.length ≤ 256) && decide (2 ≤ k.chans.length) && decide (k.chans.length ≤ 64)
def rootK (k : KN) : Bool := k.procs.length == 0 || (k.root.kind == 10 && k.root.l.length == k.procs.length)
def mayK (k : KN) : Bool := lensK k && rootK k && okPr [] k.procs && k.vars.all varOk && okCh 0 k.chans && decide (fitsR k.vars k.chans.length false k.root 2048 32)
theorem varsOk_of {l : List KV} (h : l.all varOk = true) : VarsOk l := fun y hy => by
  have := List.all_eq_true.1 h y hy
  simp only [varOk, primB, Bool.and_eq_true, decide_eq_true_eq] at this
  omega
def xN (k : KN) : Nat → AV := fun i => ([AU8 k.root.kind, AI k.root.c, AI k.root.v, AU8 k.root.item, plsA k.root.to, kesA k.root.e, gsA k.root.gs, rsA k.root.l, intsA k.procs] : List AV).getD i (AI 0)
theorem kmay_a (k : KN) (h : (lensK k && rootK k) = false) : Pure Tryz.prog gs0 14 [encN k] (AB false) := by
  have n1 : ((k.vars.map encV).length : Int) = k.vars.length := by rw [List.length_map]
  have n2 : ((k.chans.map AU8).length : Int) = k.chans.length := by rw [List.length_map]
  have n3 : ((k.procs.map AI).length : Int) = k.procs.length := by rw [List.length_map]
  have n4 : ((encRl k.root.l).length : Int) = k.root.l.length := by rw [encRl_len]
  refine Pure.of (S := tt) (fn := Tryz.f14) (n := 116) tt_ok Tryz.func14 rfl rfl rfl rfl fun w0 h0 F hgs => ?_
  (repeat first|refine A.s rfl ?_|refine A.r rfl rfl ?_|refine A.b rfl fun bx=>?_|refine A.step rfl ?_|refine A.v rfl rfl ?_)
  refine A.valE 26 rfl (x' := AB (!lensK k)) (ab_eq ?_) ?_
  · rw [n1, n2, lensK, Bool.eq_iff_iff]; simp; omega
  cases hlk : lensK k with
  | false => (repeat refine A.s rfl ?_); refine A.ret1 (Λ' := []) rfl rfl rfl (List.nil_sublist _) ⟨?_, rfl⟩; exact .refl
  | true =>
    rw [hlk, Bool.true_and] at h
    (repeat first|refine A.s rfl ?_|refine A.r rfl rfl ?_|refine A.step rfl ?_|refine A.v rfl rfl ?_)
    refine A.valE 46 rfl (x' := AB true) (ab_eq ?_) ?_
    · rw [n3, n4]
      have h' : ¬ k.procs.length = 0 ∧ ¬ (k.root.kind = 10 ∧ k.root.l.length = k.procs.length) := by simpa [rootK] using h
      by_cases hk : k.root.kind = 10
      · rw [Bool.eq_iff_iff]; simp [hk]; omega
      · rw [Bool.eq_iff_iff]; simp [hk]; omega
    (repeat refine A.s rfl ?_); refine A.ret1 (Λ' := []) rfl rfl rfl (List.nil_sublist _) ⟨?_, rfl⟩; exact .refl
theorem kmay_b (k : KN) (hw : WfN k) (h : (lensK k && rootK k) = true) (R : Bool) (hR : (okPr [] k.procs && k.vars.all varOk && okCh 0 k.chans && decide (fitsR k.vars k.chans.length false k.root 2048 32)) = R) : Pure Tryz.prog gs0 14 [encN k] (AB R) := by
  have n1 : ((k.vars.map encV).length : Int) = k.vars.length := by rw [List.length_map]
  have n2 : ((k.chans.map AU8).length : Int) = k.chans.length := by rw [List.length_map]
  have n3 : ((k.procs.map AI).length : Int) = k.procs.length := by rw [List.length_map]
  have n4 : ((encRl k.root.l).length : Int) = k.root.l.length := by rw [encRl_len]
  rw [Bool.and_eq_true] at h
  have hlk : k.vars.length ≤ 256 ∧ 2 ≤ k.chans.length ∧ k.chans.length ≤ 64 := by have := h.1; simp only [lensK, Bool.and_eq_true, decide_eq_true_eq] at this; omega
  have hrk : k.procs.length = 0 ∨ (k.root.kind = 10 ∧ k.root.l.length = k.procs.length) := by simpa [rootK] using h.2
  have hpl := hw.procs
  generalize hR1 : (k.vars.all varOk && okCh 0 k.chans && decide (fitsR k.vars k.chans.length false k.root 2048 32)) = R1
  rw [Bool.and_assoc, Bool.and_assoc, ← Bool.and_assoc (k.vars.all varOk), hR1] at hR
  refine Pure.of (S := tt) (fn := Tryz.f14) (n := 116) tt_ok Tryz.func14 rfl rfl rfl rfl fun w0 h0 F hgs => ?_
  (repeat first|refine A.s rfl ?_|refine A.r rfl rfl ?_|refine A.b rfl fun bx=>?_|refine A.step rfl ?_|refine A.v rfl rfl ?_)
  refine A.valE 26 rfl (x' := AB false) (ab_eq ?_) ?_
  · rw [n1, n2, Bool.eq_iff_iff]; simp; omega
  (repeat first|refine A.s rfl ?_|refine A.r rfl rfl ?_|refine A.step rfl ?_|refine A.v rfl rfl ?_)
  refine A.valE 46 rfl (x' := AB false) (ab_eq ?_) ?_
  · rw [n3, n4]
    rcases hrk with hp0 | ⟨hk, hl2⟩
    · simp [hp0]
    · simp [hk, hl2]
  (repeat first|refine A.s rfl ?_|refine A.r rfl rfl ?_)
  refine A.valE 49 rfl (x' := AI (k.procs.length : Nat)) (ai_eq n3) ?_
  refine A.keep [1, 48, 49, 50] rfl ?_
  refine A.loopP (ι := Nat) (fun i => (⟨[(1, ptrA _), (48, intsA k.procs), (49, AI (k.procs.length : Nat)), (50, AI (i : Nat))], []⟩, [.box _ (encN k)])) (fun i => i ≤ k.procs.length ∧ (okPr (k.procs.take i) (k.procs.drop i) && R1) = R) (fun i => k.procs.length - i) 0 ⟨by omega, hR⟩ rfl fun i hi ih => ?_
  (repeat refine A.s rfl ?_)
  refine A.cond rfl (fun hc => ?_) (fun hc => ?_)
  · simp at hc
    refine Exists.elim (at_exN (l := k.procs) (i := i) (by omega)) fun v hv => ?_
    have h1 := hi.2
    rw [drop_at hv, okPr] at h1
    have htk : k.procs.take (i + 1) = k.procs.take i ++ [v] := by rw [List.take_add_one, hv]; rfl
    have hcn := contains_p (k.procs.take i) v (by rw [List.length_take]; omega)
    (repeat refine A.s rfl ?_)
    refine A.x rfl (by omega) (map_at hv) rfl rfl ?_
    (repeat refine A.s rfl ?_)
    ((fail_if_success (refine A.lit? rfl ?_)); refine A.gS rfl (fun hc => ?_) (fun hc => ?_))
    · have hc0 : v < 0 := by simpa using hc
      rw [decide_eq_false (by omega)] at h1
      (repeat refine A.s rfl ?_); refine A.ret1 (Λ' := []) rfl rfl rfl (List.nil_sublist _) ⟨?_, rfl⟩; rw [← h1]; exact .refl
    have hc0 : 0 ≤ v := by simpa using hc
    (repeat refine A.s rfl ?_)
    ((fail_if_success (refine A.lit? rfl ?_)); refine A.gS rfl (fun hc => ?_) (fun hc => ?_))
    · have hc1 : 8 ≤ v := by simpa using hc
      rw [decide_eq_false (p := v < 8) (by omega), Bool.and_false] at h1
      (repeat refine A.s rfl ?_); refine A.ret1 (Λ' := []) rfl rfl rfl (List.nil_sublist _) ⟨?_, rfl⟩; rw [← h1]; exact .refl
    have hc1 : v < 8 := by simpa using hc
    rw [decide_eq_true hc0, decide_eq_true hc1, Bool.true_and, Bool.true_and] at h1
    (repeat first|refine A.s rfl ?_|refine A.r rfl rfl ?_)
    refine A.slice (ys := (k.procs.take i).map AI) rfl rfl rfl rfl rfl rfl rfl rfl rfl (by decide) (by omega) (by rw [List.length_map]; omega) (by simp [List.map_take]) rfl ?_
    (repeat refine A.s rfl ?_)
    refine A.c rfl hcn .refl ?_
    (repeat refine A.s rfl ?_)
    refine A.cond rfl (fun hc => ?_) (fun hc => ?_)
    · have hc : (k.procs.take i).contains v = true := hc
      rw [hc, Bool.not_true, Bool.false_and, Bool.false_and] at h1
      (repeat refine A.s rfl ?_); refine A.ret1 (Λ' := []) rfl rfl rfl (List.nil_sublist _) ⟨?_, rfl⟩; rw [← h1]; exact .refl
    · have hc : (k.procs.take i).contains v = false := hc
      rw [hc, Bool.not_false, Bool.true_and, ← htk] at h1
      (repeat refine A.s rfl ?_)
      refine A.valE 50 rfl (x' := AI ((i + 1 : Nat) : Int)) (inc_eq i (by omega)) ?_
      refine A.sub (by repeat (first | exact trivial | refine ⟨⟨_, rfl, .refl⟩, ?_⟩)) (ih (i + 1) ⟨by omega, h1⟩ (by omega))
  simp at hc
  have hil : i = k.procs.length := by omega
  have h1 := hi.2
  rw [hil, List.drop_length, okPr, Bool.true_and] at h1
  rw [← hR1, Bool.and_assoc] at h1
  generalize hR2 : (okCh 0 k.chans && decide (fitsR k.vars k.chans.length false k.root 2048 32)) = R2 at h1
  clear ih hi hR hR1
  (repeat first|refine A.s rfl ?_|refine A.r rfl rfl ?_)
  refine A.valE 72 rfl (x' := AI (k.vars.length : Nat)) (ai_eq n1) ?_
  refine A.keep [1, 71, 72, 73] rfl ?_
  refine A.loopP (ι := Nat) (fun i => (⟨[(1, ptrA _), (71, varsA k.vars), (72, AI (k.vars.length : Nat)), (73, AI (i : Nat))], []⟩, [.box _ (encN k)])) (fun i => i ≤ k.vars.length ∧ ((k.vars.drop i).all varOk && R2) = R ∧ (k.vars.take i).all varOk = true) (fun i => k.vars.length - i) 0 ⟨by omega, h1, rfl⟩ rfl fun j hi ih => ?_
  (repeat refine A.s rfl ?_)
  refine A.cond rfl (fun hc => ?_) (fun hc => ?_)
  · simp at hc
    refine Exists.elim (at_exN (l := k.vars) (i := j) (by omega)) fun v hv => ?_
    have h2 := hi.2.1
    have htv : k.vars.take (j + 1) = k.vars.take j ++ [v] := by rw [List.take_add_one, hv]; rfl
    rw [drop_at hv, List.all_cons, varOk] at h2
    (repeat refine A.s rfl ?_)
    refine A.x rfl (by omega) (map_at hv) rfl rfl ?_
    (repeat first|refine A.s rfl ?_|refine A.r rfl rfl ?_|refine A.w rfl rfl ?_|refine A.b rfl fun bx=>?_)
    refine A.c rfl (kprim_p v.kind) .refl ?_
    (repeat refine A.s rfl ?_)
    ((fail_if_success (refine A.lit? rfl ?_)); refine A.gS rfl (fun hc => ?_) (fun hc => ?_))
    · have hc0 : primB v.kind = false := by simpa using hc
      rw [hc0] at h2
      (repeat refine A.s rfl ?_); refine A.ret1 (Λ' := []) rfl rfl rfl (List.nil_sublist _) ⟨?_, rfl⟩; rw [← h2]; exact .refl
    have hc0 : primB v.kind = true := by simpa using hc
    (repeat first|refine A.s rfl ?_|refine A.r rfl rfl ?_)
    ((fail_if_success (refine A.lit? rfl ?_)); refine A.gS rfl (fun hc => ?_) (fun hc => ?_))
    · have hc1 : v.dim < 0 := by simpa using hc
      rw [decide_eq_false (p := 0 ≤ v.dim) (by omega), Bool.and_false] at h2
      (repeat refine A.s rfl ?_); refine A.ret1 (Λ' := []) rfl rfl rfl (List.nil_sublist _) ⟨?_, rfl⟩; rw [← h2]; exact .refl
    have hc1 : 0 ≤ v.dim := by simpa using hc
    (repeat first|refine A.s rfl ?_|refine A.r rfl rfl ?_)
    refine A.cond rfl (fun hc => ?_) (fun hc => ?_)
    · have hc2 : 64 < v.dim := by simpa using hc
      rw [decide_eq_false (p := v.dim ≤ 64) (by omega), Bool.and_false] at h2
      (repeat refine A.s rfl ?_); refine A.ret1 (Λ' := []) rfl rfl rfl (List.nil_sublist _) ⟨?_, rfl⟩; rw [← h2]; exact .refl
    · have hc2 : v.dim ≤ 64 := by simpa using hc
      rw [hc0, decide_eq_true hc1, decide_eq_true hc2] at h2
      simp only [Bool.true_and] at h2
      (repeat refine A.s rfl ?_)
      refine A.less (Λ' := [.box _ (encN k)]) (by repeat (first | exact List.Sublist.refl _ | apply List.Sublist.cons_cons | apply List.Sublist.cons)) ?_
      refine A.valE 73 rfl (x' := AI ((j + 1 : Nat) : Int)) (inc_eq j (by omega)) ?_
      refine A.sub (by repeat (first | exact trivial | refine ⟨⟨_, rfl, .refl⟩, ?_⟩)) (ih (j + 1) ⟨by omega, h2, by rw [htv, List.all_append, hi.2.2]; simp [varOk, hc0, hc1, hc2]⟩ (by omega))
  simp at hc
  have hjl : j = k.vars.length := by omega
  have h2 := hi.2.1
  have hvo := hi.2.2
  rw [hjl, List.take_length] at hvo
  rw [hjl, List.drop_length, List.all_nil, Bool.true_and] at h2
  clear ih hi
  rw [← hR2] at h2
  generalize hR3 : decide (fitsR k.vars k.chans.length false k.root 2048 32) = R3 at h2
  have hpr := fun b => process_p k.vars k.chans hw.vars (varsOk_of hvo) (xN k) b (szR k.root) k.root 1 false 2048 (Nat.le_refl _) hw.root (by decide) (by decide) (by decide) (by decide)
  simp only [procE, show (33 : Int) - 1 = 32 from rfl] at hpr
  (repeat first|refine A.s rfl ?_|refine A.r rfl rfl ?_)
  refine A.valE 94 rfl (x' := AI (k.chans.length : Nat)) (ai_eq n2) ?_
  refine A.keep [1, 93, 94, 95] rfl ?_
  refine A.loopP (ι := Nat) (fun i => (⟨[(1, ptrA _), (93, chsA k.chans), (94, AI (k.chans.length : Nat)), (95, AI (i : Nat))], []⟩, [.box _ (encN k)])) (fun i => i ≤ k.chans.length ∧ (okCh i (k.chans.drop i) && R3) = R) (fun i => k.chans.length - i) 0 ⟨by omega, h2⟩ rfl fun m hi ih => ?_
  (repeat refine A.s rfl ?_)
  refine A.cond rfl (fun hc => ?_) (fun hc => ?_)
  · simp at hc
    refine Exists.elim (at_exN (l := k.chans) (i := m) (by omega)) fun v hv => ?_
    have h3 := hi.2
    rw [drop_at hv, okCh] at h3
    (repeat refine A.s rfl ?_)
    refine A.x rfl (by omega) (map_at hv) rfl rfl ?_
    by_cases m0 : m = 0
    · subst m0
      rw [show wantH 0 = 1 from rfl] at h3
      (repeat refine A.s rfl ?_)
      refine A.cond rfl (fun hc => ?_) (fun hc => ?_)
      · have hc : (v != 1) = true := hc
        have hv1 : (v == 1) = false := by simpa using hc
        rw [hv1] at h3
        (repeat refine A.s rfl ?_); refine A.ret1 (Λ' := []) rfl rfl rfl (List.nil_sublist _) ⟨?_, rfl⟩; rw [← h3]; exact .refl
      · have hc : (v != 1) = false := hc
        have hv1 : (v == 1) = true := by simpa using hc
        rw [hv1, Bool.true_and] at h3
        (repeat refine A.s rfl ?_)
        refine A.sub (by repeat (first | exact trivial | refine ⟨⟨_, rfl, .refl⟩, ?_⟩)) (ih 1 ⟨by omega, h3⟩ (by omega))
    by_cases m1 : m = 1
    · subst m1
      rw [show wantH 1 = 2 from rfl] at h3
      (repeat refine A.s rfl ?_)
      refine A.cond rfl (fun hc => ?_) (fun hc => ?_)
      · have hc : (v != 2) = true := hc
        have hv1 : (v == 2) = false := by simpa using hc
        rw [hv1] at h3
        (repeat refine A.s rfl ?_); refine A.ret1 (Λ' := []) rfl rfl rfl (List.nil_sublist _) ⟨?_, rfl⟩; rw [← h3]; exact .refl
      · have hc : (v != 2) = false := hc
        have hv1 : (v == 2) = true := by simpa using hc
        rw [hv1, Bool.true_and] at h3
        (repeat refine A.s rfl ?_)
        refine A.sub (by repeat (first | exact trivial | refine ⟨⟨_, rfl, .refl⟩, ?_⟩)) (ih 2 ⟨by omega, h3⟩ (by omega))
    · rw [show wantH m = 0 by simp [wantH, m0, m1]] at h3
      (repeat refine A.s rfl ?_)
      refine A.valE 101 rfl (x' := AB false) (ab_eq (by simp; omega)) ?_
      (repeat refine A.s rfl ?_)
      refine A.valE 103 rfl (x' := AB false) (ab_eq (by simp; omega)) ?_
      (repeat refine A.s rfl ?_)
      refine A.cond rfl (fun hc => ?_) (fun hc => ?_)
      · have hc : (v != 0) = true := hc
        have hv1 : (v == 0) = false := by simpa using hc
        rw [hv1] at h3
        (repeat refine A.s rfl ?_); refine A.ret1 (Λ' := []) rfl rfl rfl (List.nil_sublist _) ⟨?_, rfl⟩; rw [← h3]; exact .refl
      · have hc : (v != 0) = false := hc
        have hv1 : (v == 0) = true := by simpa using hc
        rw [hv1, Bool.true_and] at h3
        (repeat refine A.s rfl ?_)
        refine A.valE 95 rfl (x' := AI ((m + 1 : Nat) : Int)) (inc_eq m (by omega)) ?_
        refine A.sub (by repeat (first | exact trivial | refine ⟨⟨_, rfl, .refl⟩, ?_⟩)) (ih (m + 1) ⟨by omega, h3⟩ (by omega))
  simp at hc
  have hml : m = k.chans.length := by omega
  have h3 := hi.2
  rw [hml, List.drop_length, okCh, Bool.true_and] at h3
  clear ih hi
  (repeat first|refine A.s rfl ?_|refine A.r rfl rfl ?_|refine A.b rfl fun bx=>?_)
  refine A.entsEq (Λ' := [.box _ (ckA k.vars k.chans (xN k) 2048), .box _ (encN k)]) rfl ?_
  refine A.e rfl (hpr _) .refl (List.Perm.refl _) fun lf _ => ?_
  (repeat refine A.s rfl ?_); refine A.ret1 (Λ' := []) rfl rfl rfl (List.nil_sublist _) ⟨?_, rfl⟩; refine Sb.eq (ab_eq ?_); rw [← h3, ← hR3]
theorem kmay_p (k : KN) (hw : WfN k) : Pure Tryz.prog gs0 14 [encN k] (AB (mayK k)) := by
  by_cases h : (lensK k && rootK k) = true
  · have := kmay_b k hw h _ rfl
    unfold mayK
    rw [h, Bool.true_and]
    exact this
  · have h : (lensK k && rootK k) = false := by simpa using h
    have := kmay_a k h
    unfold mayK
    rw [h, Bool.false_and, Bool.false_and, Bool.false_and, Bool.false_and]
    exact this
end Go.Proofs.YtgmeahcclogfmaaGreatDoor
/-!
  Layer 16: shapes, places, channels, guards, by the reference.
-/
namespace Go.Proofs.YtgmeahcclogfmaaGreatDoor
open Go Go.Tp
set_option linter.unusedVariables false
set_option linter.unusedSimpArgs false
set_option maxRecDepth 100000
set_option maxHeartbeats 4000000
theorem within16_p (n : Nat) (a b : Int) : Pure Tryz.prog gs0 64 [AI (n : Int), twoA a b] (AB (inB n a b)) := by
  refine Pure.of (S := tt) (fn := Tryz.f64) (n := 15) tt_ok Tryz.func64 rfl rfl rfl rfl fun w0 h0 F hgs => ?_
  (repeat first|refine A.s rfl ?_|refine A.b rfl fun bx=>?_)
  refine A.indexArr rfl rfl rfl rfl rfl rfl rfl rfl (by decide) (by decide) ?_
  (repeat first|refine A.s rfl ?_|refine A.r rfl rfl ?_)
  ((fail_if_success (refine A.lit? rfl ?_)); refine A.gS rfl (fun hc => ?_) (fun hc => ?_))
  · (repeat refine A.s rfl ?_)
    refine A.indexArr rfl rfl rfl rfl rfl rfl rfl rfl (by decide) (by decide) ?_
    (repeat first|refine A.s rfl ?_|refine A.r rfl rfl ?_); refine A.ret1 (Λ' := []) rfl rfl rfl (List.nil_sublist _) ⟨?_, rfl⟩; refine Sb.eq (ab_eq ?_); rw [inB, hc]; rfl
  · (repeat refine A.s rfl ?_); refine A.ret1 (Λ' := []) rfl rfl rfl (List.nil_sublist _) ⟨?_, rfl⟩; refine Sb.eq (ab_eq ?_); rw [inB, hc]; rfl
structure FM where
  c : Bool
  v : Bool
  t1 : Int
  t2 : Int
  e1 : Int
  e2 : Int
  g1 : Int
  g2 : Int
  l1 : Int
  l2 : Int
abbrev fmA (f : FM) : AV := .ag [AB f.c, AB f.v, AB f.c, AI f.t1, AI f.t2, AI f.e1, AI f.e2, AI f.g1, AI f.g2, AI f.l1, AI f.l2]
def fm0 : FM := ⟨false, false, 0, 0, 0, 0, 0, 0, 0, 0⟩
def formK (k : Int) : Option FM :=
  if k = 1 ∨ k = 2 then some fm0 else if k = 3 then some ⟨false, true, 0, 0, 0, 0, 0, 0, 0, 0⟩ else if k = 4 then some ⟨false, false, 1, 8, 1, 8, 0, 0, 0, 0⟩
  else if k = 5 then some ⟨true, false, 1, 1, 0, 0, 0, 0, 0, 0⟩ else if k = 6 then some ⟨true, false, 0, 0, 1, 1, 0, 0, 0, 0⟩ else if k = 7 then some ⟨false, false, 1, 1, 0, 0, 0, 0, 0, 0⟩
  else if k = 8 then some ⟨false, false, 0, 0, 1, 1, 0, 0, 0, 0⟩ else if k = 9 then some ⟨false, false, 0, 0, 0, 0, 0, 0, 0, 2048⟩ else if k = 10 then some ⟨false, false, 0, 0, 0, 0, 0, 0, 0, 16⟩
  else if k = 11 then some ⟨false, false, 0, 0, 0, 0, 0, 0, 2, 2⟩ else if k = 12 ∨ k = 14 ∨ k = 15 then some ⟨false, false, 0, 0, 0, 0, 0, 16, 0, 0⟩ else if k = 13 then some ⟨false, false, 0, 0, 1, 1, 0, 0, 1, 1⟩ else none
theorem kinds_15 {k : Int} (h : 1 ≤ k ∧ k ≤ 15) : k = 1 ∨ k = 2 ∨ k = 3 ∨ k = 4 ∨ k = 5 ∨ k = 6 ∨ k = 7 ∨ k = 8 ∨ k = 9 ∨ k = 10 ∨ k = 11 ∨ k = 12 ∨ k = 13 ∨ k = 14 ∨ k = 15 := by omega
theorem forms_p (k : Int) : Pure Tryz.prog gs0 63 [AU8 k] (.tp [fmA ((formK k).getD fm0), AB (formK k).isSome]) := by
  by_cases h : 1 ≤ k ∧ k ≤ 15
  · rcases kinds_15 h with rfl | rfl | rfl | rfl | rfl | rfl | rfl | rfl | rfl | rfl | rfl | rfl | rfl | rfl | rfl
    all_goals refine Pure.of (S := tt) (fn := Tryz.f63) (n := 61) tt_ok Tryz.func63 rfl rfl rfl rfl fun w0 h0 F hgs => ?_
    all_goals ((repeat first|refine A.s rfl ?_|refine A.r rfl rfl ?_|refine A.w rfl rfl ?_|refine A.b rfl fun bx=>?_); refine A.retN (Λ' := []) rfl rfl (ResA.cell rfl rfl rfl (ResA.tmp rfl ResA.nil)) (List.nil_sublist _) ⟨?_, rfl⟩; exact .refl)
  · have hn : formK k = none := by
      unfold formK
      rw [if_neg (by omega), if_neg (by omega), if_neg (by omega), if_neg (by omega), if_neg (by omega), if_neg (by omega), if_neg (by omega), if_neg (by omega), if_neg (by omega), if_neg (by omega), if_neg (by omega), if_neg (by omega)]
    rw [hn]
    refine Pure.of (S := tt) (fn := Tryz.f63) (n := 61) tt_ok Tryz.func63 rfl rfl rfl rfl fun w0 h0 F hgs => ?_
    (repeat (first | first|refine A.s rfl ?_|refine A.r rfl rfl ?_|refine A.w rfl rfl ?_|refine A.p rfl ?_|refine A.b rfl fun bx=>?_|refine A.t rfl fun bl=>?_ | refine A.cond rfl (fun h => (by simp at h; omega)) (fun _ => ?_) | first|refine A.step rfl ?_|refine A.v rfl rfl ?_))
    refine A.retN (Λ' := []) rfl rfl (ResA.cell rfl rfl rfl (ResA.tmp rfl ResA.nil)) (List.nil_sublist _) ⟨?_, rfl⟩; exact .refl
def looksB (p : PR) : Bool := match formK p.kind with
  | some f => shapeR p f.c f.v f.t1 f.t2 f.e1 f.e2 f.g1 f.g2 f.l1 f.l2
  | none => false
theorem looks_p (p : PR) : Pure Tryz.prog gs0 46 [cellsR p] (AB (looksB p)) := by
  have hf := forms_p p.kind
  unfold looksB
  generalize formK p.kind = fk at hf ⊢
  cases fk with
  | none =>
    refine Pure.of (S := tt) (fn := Tryz.f46) (n := 73) tt_ok Tryz.func46 rfl rfl rfl rfl fun w0 h0 F hgs => ?_
    (repeat first|refine A.s rfl ?_|refine A.r rfl rfl ?_|refine A.b rfl fun bx=>?_); refine A.c rfl hf .refl ?_
    (repeat first|refine A.s rfl ?_|refine A.w rfl rfl ?_|refine A.b rfl fun bx=>?_); refine A.ret1 (Λ' := []) rfl rfl rfl (List.nil_sublist _) ⟨?_, rfl⟩; exact .refl
  | some f =>
    simp only [Option.getD_some, Option.isSome_some] at hf ⊢
    have s1 := within16_p p.to.length f.t1 f.t2
    have s2 := within16_p p.e.length f.e1 f.e2
    have s3 := within16_p p.gs.length f.g1 f.g2
    have s4 := within16_p p.l.length f.l1 f.l2
    have n1 : ((p.to.map encPl).length : Int) = p.to.length := by rw [List.length_map]
    have n2 : ((encKl p.e).length : Int) = p.e.length := by rw [encKl_len]
    have n3 : ((encGl p.gs).length : Int) = p.gs.length := by rw [encGl_len]
    have n4 : ((encRl p.l).length : Int) = p.l.length := by rw [encRl_len]
    rw [← n1] at s1
    rw [← n2] at s2
    rw [← n3] at s3
    rw [← n4] at s4
    unfold shapeR
    generalize inB p.to.length f.t1 f.t2 = b1 at s1 ⊢
    generalize inB p.e.length f.e1 f.e2 = b2 at s2 ⊢
    generalize inB p.gs.length f.g1 f.g2 = b3 at s3 ⊢
    generalize inB p.l.length f.l1 f.l2 = b4 at s4 ⊢
    clear n1 n2 n3 n4
    obtain ⟨c, v, t1, t2, e1, e2, g1, g2, l1, l2⟩ := f
    cases c <;> cases v
    all_goals refine Pure.of (S := tt) (fn := Tryz.f46) (n := 73) tt_ok Tryz.func46 rfl rfl rfl rfl fun w0 h0 F hgs => ?_
    all_goals (repeat' first|first|refine A.s rfl ?_|refine A.r rfl rfl ?_|refine A.w rfl rfl ?_|refine A.p rfl ?_|refine A.b rfl fun bx=>?_|refine A.t rfl fun bl=>?_|refine A.c rfl hf .refl ?_|refine A.c rfl s1 .refl ?_|refine A.c rfl s2 .refl ?_|refine A.c rfl s3 .refl ?_|refine A.c rfl s4 .refl ?_|((fail_if_success (refine A.lit? rfl ?_)); refine A.gS rfl (fun hc => ?_) (fun hc => ?_))|((fail_if_success (refine A.litP? rfl ?_)); refine A.gSP rfl (fun hc => ?_) (fun hc => ?_)))
    (all_goals (refine A.ret1 (Λ' := []) rfl rfl rfl (List.nil_sublist _) ⟨?_, rfl⟩; refine Sb.eq (ab_eq ?_)))
    all_goals simp_all
theorem rFits_p (l : List KV) (e : KE) (hw : wfK e) (kind : Int) : Pure Tryz.prog gs0 66 [varsA l, cellsK e, AU8 kind] (AB (fitV l e kind)) := by
  have hva := rvalid_p e hw
  rw [encK_eq] at hva
  unfold fitV
  by_cases hve : valid e
  · have hf := fits16_p l (ht e) e kind (Nat.le_refl _) hve.1
    rw [encK_eq] at hf
    rw [decide_eq_true hve] at hva ⊢
    rw [Bool.true_and]
    generalize fitsM l e kind = bf at hf ⊢
    refine Pure.of (S := tt) (fn := Tryz.f66) (n := 15) tt_ok Tryz.func66 rfl rfl rfl rfl fun w0 h0 F hgs => ?_
    (repeat first|refine A.s rfl ?_|refine A.r rfl rfl ?_|refine A.b rfl fun bx=>?_); refine A.c rfl hva .refl ?_
    (repeat first|refine A.s rfl ?_|refine A.r rfl rfl ?_); refine A.c rfl hf .refl ?_
    (repeat refine A.s rfl ?_); refine A.ret1 (Λ' := []) rfl rfl rfl (List.nil_sublist _) ⟨?_, rfl⟩; exact .refl
  · rw [decide_eq_false hve] at hva ⊢
    rw [Bool.false_and]
    refine Pure.of (S := tt) (fn := Tryz.f66) (n := 15) tt_ok Tryz.func66 rfl rfl rfl rfl fun w0 h0 F hgs => ?_
    (repeat first|refine A.s rfl ?_|refine A.r rfl rfl ?_|refine A.b rfl fun bx=>?_); refine A.c rfl hva .refl ?_
    (repeat refine A.s rfl ?_); refine A.ret1 (Λ' := []) rfl rfl rfl (List.nil_sublist _) ⟨?_, rfl⟩; exact .refl
theorem rplace_p (l : List KV) (p : PL) (hw : wfPl p) (k : Int) : Pure Tryz.prog gs0 65 [varsA l, encPl p, AU8 k] (AB (placeB l p k)) := by
  have hlen : ((l.map encV).length : Int) = l.length := by rw [List.length_map]
  have hxl : ((encKl p.ix).length : Int) = p.ix.length := by rw [encKl_len]
  by_cases hneg : p.v < 0
  · refine Pure.of (S := tt) (fn := Tryz.f65) (n := 50) tt_ok Tryz.func65 rfl rfl rfl rfl fun w0 h0 F hgs => ?_
    (repeat first|refine A.s rfl ?_|refine A.r rfl rfl ?_|refine A.b rfl fun bx=>?_)
    refine A.valE 10 rfl (x' := AB true) (ab_eq (by simpa using hneg)) ?_
    (repeat refine A.s rfl ?_); refine A.ret1 (Λ' := []) rfl rfl rfl (List.nil_sublist _) ⟨?_, rfl⟩; refine Sb.eq (ab_eq ?_); rw [placeB, if_pos (.inl hneg)]
  by_cases h1 : (l.length : Int) ≤ p.v
  · refine Pure.of (S := tt) (fn := Tryz.f65) (n := 50) tt_ok Tryz.func65 rfl rfl rfl rfl fun w0 h0 F hgs => ?_
    (repeat first|refine A.s rfl ?_|refine A.r rfl rfl ?_|refine A.b rfl fun bx=>?_)
    refine A.valE 10 rfl (x' := AB false) (ab_eq (by simp; omega)) ?_
    (repeat first|refine A.s rfl ?_|refine A.r rfl rfl ?_)
    refine A.valE 17 rfl (x' := AB true) (ab_eq (by rw [hlen]; simpa using h1)) ?_
    (repeat refine A.s rfl ?_); refine A.ret1 (Λ' := []) rfl rfl rfl (List.nil_sublist _) ⟨?_, rfl⟩; refine Sb.eq (ab_eq ?_); rw [placeB, if_pos (.inr h1)]
  refine Exists.elim (at_ex (l := l) (i := p.v) (by omega) (by omega)) fun y hy => ?_
  have hpb : placeB l p k = (y.kind == k && (if y.dim = 0 then p.ix.length == 0 else p.ix.length == 1 && fit1 l p.ix 1)) := by rw [placeB, if_neg (by omega), hy]
  rw [hpb]
  clear hpb
  have hv0 : (0 : Int) ≤ p.v := by omega
  by_cases hk : y.kind = k
  case neg =>
    refine Pure.of (S := tt) (fn := Tryz.f65) (n := 50) tt_ok Tryz.func65 rfl rfl rfl rfl fun w0 h0 F hgs => ?_
    (repeat first|refine A.s rfl ?_|refine A.r rfl rfl ?_|refine A.b rfl fun bx=>?_)
    refine A.valE 10 rfl (x' := AB false) (ab_eq (by simp; omega)) ?_
    (repeat first|refine A.s rfl ?_|refine A.r rfl rfl ?_)
    refine A.valE 17 rfl (x' := AB false) (ab_eq (by rw [hlen]; simp; omega)) ?_
    (repeat first|refine A.s rfl ?_|refine A.r rfl rfl ?_)
    refine A.x rfl hv0 (map_at hy) rfl rfl ?_
    (repeat refine A.s rfl ?_)
    refine A.valE 26 rfl (x' := AB true) (ab_eq (by simpa using hk)) ?_
    (repeat refine A.s rfl ?_); refine A.ret1 (Λ' := []) rfl rfl rfl (List.nil_sublist _) ⟨?_, rfl⟩; refine Sb.eq (ab_eq ?_); simp [hk]
  subst hk
  by_cases hd : y.dim = 0
  · refine Pure.of (S := tt) (fn := Tryz.f65) (n := 50) tt_ok Tryz.func65 rfl rfl rfl rfl fun w0 h0 F hgs => ?_
    (repeat first|refine A.s rfl ?_|refine A.r rfl rfl ?_|refine A.b rfl fun bx=>?_)
    refine A.valE 10 rfl (x' := AB false) (ab_eq (by simp; omega)) ?_
    (repeat first|refine A.s rfl ?_|refine A.r rfl rfl ?_)
    refine A.valE 17 rfl (x' := AB false) (ab_eq (by rw [hlen]; simp; omega)) ?_
    (repeat first|refine A.s rfl ?_|refine A.r rfl rfl ?_)
    refine A.x rfl hv0 (map_at hy) rfl rfl ?_
    (repeat refine A.s rfl ?_)
    refine A.valE 26 rfl (x' := AB false) (ab_eq (by simp)) ?_
    (repeat first|refine A.s rfl ?_|refine A.r rfl rfl ?_)
    refine A.x rfl hv0 (map_at hy) rfl rfl ?_
    (repeat refine A.s rfl ?_)
    refine A.valE 33 rfl (x' := AB true) (ab_eq (by simpa using hd)) ?_
    (repeat first|refine A.s rfl ?_|refine A.r rfl rfl ?_); refine A.ret1 (Λ' := []) rfl rfl rfl (List.nil_sublist _) ⟨?_, rfl⟩; refine Sb.eq (ab_eq ?_); rw [hxl, if_pos hd, Bool.eq_iff_iff]; simp
  · by_cases hx1 : p.ix.length = 1
    · obtain ⟨e, he⟩ : ∃ e, p.ix = [e] := by
        match h : p.ix, hx1 with
        | [e], _ => exact ⟨e, rfl⟩
      have hf := rFits_p l e (wfKl_mem hw e (by rw [he]; exact List.mem_cons_self ..)) 1
      have hfb : fit1 l p.ix 1 = fitV l e 1 := by rw [he]; rfl
      rw [hfb]
      generalize fitV l e 1 = fb at hf ⊢
      refine Pure.of (S := tt) (fn := Tryz.f65) (n := 50) tt_ok Tryz.func65 rfl rfl rfl rfl fun w0 h0 F hgs => ?_
      (repeat first|refine A.s rfl ?_|refine A.r rfl rfl ?_|refine A.b rfl fun bx=>?_)
      refine A.valE 10 rfl (x' := AB false) (ab_eq (by simp; omega)) ?_
      (repeat first|refine A.s rfl ?_|refine A.r rfl rfl ?_)
      refine A.valE 17 rfl (x' := AB false) (ab_eq (by rw [hlen]; simp; omega)) ?_
      (repeat first|refine A.s rfl ?_|refine A.r rfl rfl ?_)
      refine A.x rfl hv0 (map_at hy) rfl rfl ?_
      (repeat refine A.s rfl ?_)
      refine A.valE 26 rfl (x' := AB false) (ab_eq (by simp)) ?_
      (repeat first|refine A.s rfl ?_|refine A.r rfl rfl ?_)
      refine A.x rfl hv0 (map_at hy) rfl rfl ?_
      (repeat refine A.s rfl ?_)
      refine A.valE 33 rfl (x' := AB false) (ab_eq (by simpa using hd)) ?_
      (repeat first|refine A.s rfl ?_|refine A.r rfl rfl ?_)
      refine A.valE 42 rfl (x' := AB true) (ab_eq (by rw [hxl]; simp [hx1])) ?_
      (repeat first|refine A.s rfl ?_|refine A.r rfl rfl ?_)
      refine A.x rfl (by decide) (show (encKl p.ix)[(0 : Int).toNat]? = some (encK e) from encKl_at (by rw [he]; rfl)) (encK_eq e) rfl ?_
      (repeat refine A.s rfl ?_)
      refine A.c rfl hf .refl ?_
      (repeat refine A.s rfl ?_); refine A.ret1 (Λ' := []) rfl rfl rfl (List.nil_sublist _) ⟨?_, rfl⟩; refine Sb.eq (ab_eq ?_); rw [if_neg hd, hx1]; simp
    · refine Pure.of (S := tt) (fn := Tryz.f65) (n := 50) tt_ok Tryz.func65 rfl rfl rfl rfl fun w0 h0 F hgs => ?_
      (repeat first|refine A.s rfl ?_|refine A.r rfl rfl ?_|refine A.b rfl fun bx=>?_)
      refine A.valE 10 rfl (x' := AB false) (ab_eq (by simp; omega)) ?_
      (repeat first|refine A.s rfl ?_|refine A.r rfl rfl ?_)
      refine A.valE 17 rfl (x' := AB false) (ab_eq (by rw [hlen]; simp; omega)) ?_
      (repeat first|refine A.s rfl ?_|refine A.r rfl rfl ?_)
      refine A.x rfl hv0 (map_at hy) rfl rfl ?_
      (repeat refine A.s rfl ?_)
      refine A.valE 26 rfl (x' := AB false) (ab_eq (by simp)) ?_
      (repeat first|refine A.s rfl ?_|refine A.r rfl rfl ?_)
      refine A.x rfl hv0 (map_at hy) rfl rfl ?_
      (repeat refine A.s rfl ?_)
      refine A.valE 33 rfl (x' := AB false) (ab_eq (by simpa using hd)) ?_
      (repeat first|refine A.s rfl ?_|refine A.r rfl rfl ?_)
      refine A.valE 42 rfl (x' := AB false) (ab_eq (by rw [hxl]; simp; omega)) ?_
      (repeat refine A.s rfl ?_); refine A.ret1 (Λ' := []) rfl rfl rfl (List.nil_sublist _) ⟨?_, rfl⟩; refine Sb.eq (ab_eq ?_); rw [if_neg hd]; simp [hx1]
theorem rprim_p (t : Int) : Pure Tryz.prog gs0 36 [AU8 t] (AB (primB t)) := by
  have := prim_p t
  have he : (t == 1 || t == 2 || t == 3) = primB t := by rw [Bool.eq_iff_iff]; simp [primB]; omega
  rw [he] at this
  exact this
theorem rinput_p (k : KN) (c item : Int) (to : PL) (hw : wfPl to) : Pure Tryz.prog gs0 67 [encN k, AI c, AU8 item, encPl to] (AB (inputB k.vars k.chans.length c item to)) := by
  have hn : ((k.chans.map AU8).length : Int) = k.chans.length := by rw [List.length_map]
  have hp := rprim_p item
  have hpl := rplace_p k.vars to hw item
  unfold inputB chanB
  generalize primB item = b1 at hp ⊢
  generalize placeB k.vars to item = b2 at hpl ⊢
  refine Pure.of (S := tt) (fn := Tryz.f67) (n := 41) tt_ok Tryz.func67 rfl rfl rfl rfl fun w0 h0 F hgs => ?_
  (repeat' first|first|refine A.s rfl ?_|refine A.r rfl rfl ?_|refine A.w rfl rfl ?_|refine A.p rfl ?_|refine A.b rfl fun bx=>?_|refine A.t rfl fun bl=>?_|refine A.c rfl hp .refl ?_|refine A.c rfl hpl .refl ?_|((fail_if_success (refine A.lit? rfl ?_)); refine A.gS rfl (fun hc => ?_) (fun hc => ?_))|((fail_if_success (refine A.litP? rfl ?_)); refine A.gSP rfl (fun hc => ?_) (fun hc => ?_)))
  (all_goals (refine A.ret1 (Λ' := []) rfl rfl rfl (List.nil_sublist _) ⟨?_, rfl⟩; refine Sb.eq (ab_eq ?_)))
  all_goals (rw [Bool.eq_iff_iff]; simp_all)
  all_goals (try intros)
  all_goals (first | omega | (cases b1 <;> cases b2 <;> simp_all <;> omega))
theorem routput_p (k : KN) (c item : Int) (e : KE) (hw : wfK e) : Pure Tryz.prog gs0 68 [encN k, AI c, AU8 item, cellsK e] (AB (chanB k.chans.length c item 0 && fitV k.vars e item)) := by
  have hn : ((k.chans.map AU8).length : Int) = k.chans.length := by rw [List.length_map]
  have hp := rprim_p item
  have hpl := rFits_p k.vars e hw item
  unfold chanB
  generalize primB item = b1 at hp ⊢
  generalize fitV k.vars e item = b2 at hpl ⊢
  refine Pure.of (S := tt) (fn := Tryz.f68) (n := 37) tt_ok Tryz.func68 rfl rfl rfl rfl fun w0 h0 F hgs => ?_
  (repeat' first|first|refine A.s rfl ?_|refine A.r rfl rfl ?_|refine A.w rfl rfl ?_|refine A.p rfl ?_|refine A.b rfl fun bx=>?_|refine A.t rfl fun bl=>?_|refine A.c rfl hp .refl ?_|refine A.c rfl hpl .refl ?_|((fail_if_success (refine A.lit? rfl ?_)); refine A.gS rfl (fun hc => ?_) (fun hc => ?_))|((fail_if_success (refine A.litP? rfl ?_)); refine A.gSP rfl (fun hc => ?_) (fun hc => ?_)))
  (all_goals (refine A.ret1 (Λ' := []) rfl rfl rfl (List.nil_sublist _) ⟨?_, rfl⟩; refine Sb.eq (ab_eq ?_)))
  all_goals (rw [Bool.eq_iff_iff]; simp_all)
  all_goals (try intros)
  all_goals (first | omega | (cases b1 <;> cases b2 <;> simp_all <;> omega))
end Go.Proofs.YtgmeahcclogfmaaGreatDoor
/-!
  Layer 16: guards, by the reference.
-/
namespace Go.Proofs.YtgmeahcclogfmaaGreatDoor
open Go Go.Tp
set_option linter.unusedVariables false
set_option linter.unusedSimpArgs false
set_option maxRecDepth 100000
set_option maxHeartbeats 4000000
def usesG (g : GD) : Bool := g.c == 0 && g.item == 0 && g.to.v == 0 && g.to.ix.length == 0
theorem plainGB_eq (g : GD) (i t : Bool) : plainGB g i t = ((i || usesG g) && (t || zeroE g.time)) := rfl
theorem timed_eq (e : KE) : (bif bif bif bif bif e.kind != 0 then true else e.oper != 0 then true else e.to != 0 then true else e.n != 0 then true else e.v != 0 then true else decide (0 < ((encKl e.l).length : Int))) = !zeroE e := by
  have n1 : ((encKl e.l).length : Int) = e.l.length := by rw [encKl_len]
  have hn : decide (0 < ((encKl e.l).length : Int)) = !decide (e.l.length ≤ 0) := by
    rw [n1]
    rcases Nat.eq_zero_or_pos e.l.length with h | h
    · rw [h]; rfl
    · rw [decide_eq_true (by omega), decide_eq_false (by omega)]; rfl
  rw [hn, zeroE]
  simp only [bne]
  generalize (e.kind == 0) = a1
  generalize (e.oper == 0) = a2
  generalize (e.to == 0) = a3
  generalize (e.n == 0) = a4
  generalize (e.v == 0) = a5
  generalize decide (e.l.length ≤ 0) = a6
  cases a1 <;> cases a2 <;> cases a3 <;> cases a4 <;> cases a5 <;> cases a6 <;> rfl
theorem inputs_eq (g : GD) : (bif bif bif g.c != 0 then true else g.item != 0 then true else g.to.v != 0 then true else decide (0 < ((encKl g.to.ix).length : Int))) = !usesG g := by
  have n1 : ((encKl g.to.ix).length : Int) = g.to.ix.length := by rw [encKl_len]
  have hn : decide (0 < ((encKl g.to.ix).length : Int)) = !(g.to.ix.length == 0) := by
    rw [n1]
    rcases Nat.eq_zero_or_pos g.to.ix.length with h | h
    · rw [h]; rfl
    · rw [decide_eq_true (by omega), beq_eq_false_iff_ne.2 (by omega)]; rfl
  rw [hn, usesG]
  simp only [bne]
  generalize (g.c == 0) = a1
  generalize (g.item == 0) = a2
  generalize (g.to.v == 0) = a3
  generalize (g.to.ix.length == 0) = a4
  cases a1 <;> cases a2 <;> cases a3 <;> cases a4 <;> rfl
theorem rguard_a (k : KN) (kind : Int) (g : GD) (h : g.body.length ≠ 1) : Pure Tryz.prog gs0 69 [encN k, AU8 kind, cellsG g] (AB false) := by
  refine Pure.of (S := tt) (fn := Tryz.f69) (n := 136) tt_ok Tryz.func69 rfl rfl rfl rfl fun w0 h0 F hgs => ?_
  (repeat first|refine A.s rfl ?_|refine A.r rfl rfl ?_|refine A.b rfl fun bx=>?_)
  refine A.valE 13 rfl (x' := AB true) (ab_eq (by rw [encRl_len, Bool.eq_iff_iff]; simp; omega)) ?_
  (repeat refine A.s rfl ?_); refine A.ret1 (Λ' := []) rfl rfl rfl (List.nil_sublist _) ⟨?_, rfl⟩; exact .refl
theorem rguard_b (k : KN) (kind : Int) (g : GD) (h : g.body.length = 1) (hfc : Pure Tryz.prog gs0 66 [varsA k.vars, cellsK g.cond, AU8 3] (AB false)) : Pure Tryz.prog gs0 69 [encN k, AU8 kind, cellsG g] (AB false) := by
  refine Pure.of (S := tt) (fn := Tryz.f69) (n := 136) tt_ok Tryz.func69 rfl rfl rfl rfl fun w0 h0 F hgs => ?_
  (repeat first|refine A.s rfl ?_|refine A.r rfl rfl ?_|refine A.b rfl fun bx=>?_)
  refine A.valE 13 rfl (x' := AB false) (ab_eq (by rw [encRl_len, h]; rfl)) ?_
  (repeat first|refine A.s rfl ?_|refine A.r rfl rfl ?_)
  refine A.c rfl hfc .refl ?_
  (repeat refine A.s rfl ?_); refine A.ret1 (Λ' := []) rfl rfl rfl (List.nil_sublist _) ⟨?_, rfl⟩; exact .refl
theorem rguard_c (k : KN) (kind : Int) (g : GD) (h : g.body.length = 1) (hfc : Pure Tryz.prog gs0 66 [varsA k.vars, cellsK g.cond, AU8 3] (AB true)) (b2 b3 : Bool) (hft : Pure Tryz.prog gs0 66 [varsA k.vars, cellsK g.time, AU8 1] (AB b2))
    (hin : Pure Tryz.prog gs0 67 [encN k, AI g.c, AU8 g.item, encPl g.to] (AB b3)) (R : Bool)
    (hR : ∀ cb z w : Bool, cb = (kind == 12) → z = zeroE g.time → w = usesG g → R = (((g.kind == 1) == cb) && (if g.kind = 1 ∨ g.kind = 2 then w && z else if g.kind = 3 then z && b3 else if g.kind = 4 then w && b2 else false))) :
    Pure Tryz.prog gs0 69 [encN k, AU8 kind, cellsG g] (AB R) := by
  have e7 := timed_eq g.time
  have e8 := inputs_eq g
  have hR := hR _ _ _ rfl rfl rfl
  generalize zeroE g.time = z at e7 hR
  generalize usesG g = w at e8 hR
  refine Pure.of (S := tt) (fn := Tryz.f69) (n := 136) tt_ok Tryz.func69 rfl rfl rfl rfl fun w0 h0 F hgs => ?_
  (repeat first|refine A.s rfl ?_|refine A.r rfl rfl ?_|refine A.b rfl fun bx=>?_)
  refine A.valE 13 rfl (x' := AB false) (ab_eq (by rw [encRl_len, h]; rfl)) ?_
  (repeat first|refine A.s rfl ?_|refine A.r rfl rfl ?_)
  refine A.c rfl hfc .refl ?_
  (repeat first|refine A.s rfl ?_|refine A.r rfl rfl ?_|refine A.step rfl ?_|refine A.v rfl rfl ?_)
  refine A.valE 7 rfl (x' := AB (!z)) (ab_eq e7) ?_
  refine A.valE 8 rfl (x' := AB (!w)) (ab_eq e8) ?_
  clear e7 e8
  refine A.cond rfl (fun hc => ?_) (fun hc => ?_)
  · have k1 : g.kind = 1 := by simpa using hc
    rw [k1] at hR
    (repeat' first|first|refine A.s rfl ?_|refine A.r rfl rfl ?_|refine A.w rfl rfl ?_|refine A.p rfl ?_|refine A.b rfl fun bx=>?_|refine A.t rfl fun bl=>?_|((fail_if_success (refine A.lit? rfl ?_)); refine A.gS rfl (fun hc => ?_) (fun hc => ?_))|((fail_if_success (refine A.litP? rfl ?_)); refine A.gSP rfl (fun hc => ?_) (fun hc => ?_)))
    (all_goals (refine A.ret1 (Λ' := []) rfl rfl rfl (List.nil_sublist _) ⟨?_, rfl⟩; refine Sb.eq (ab_eq ?_)))
    all_goals (clear hin hft hfc; simp_all)
  have k1 : g.kind ≠ 1 := by simpa using hc
  (repeat refine A.s rfl ?_)
  refine A.cond rfl (fun hc => ?_) (fun hc => ?_)
  · have k2 : g.kind = 2 := by simpa using hc
    rw [k2] at hR
    (repeat' first|first|refine A.s rfl ?_|refine A.r rfl rfl ?_|refine A.w rfl rfl ?_|refine A.p rfl ?_|refine A.b rfl fun bx=>?_|refine A.t rfl fun bl=>?_|((fail_if_success (refine A.lit? rfl ?_)); refine A.gS rfl (fun hc => ?_) (fun hc => ?_))|((fail_if_success (refine A.litP? rfl ?_)); refine A.gSP rfl (fun hc => ?_) (fun hc => ?_)))
    (all_goals (refine A.ret1 (Λ' := []) rfl rfl rfl (List.nil_sublist _) ⟨?_, rfl⟩; refine Sb.eq (ab_eq ?_)))
    all_goals (clear hin hft hfc; simp_all)
  have k2 : g.kind ≠ 2 := by simpa using hc
  (repeat refine A.s rfl ?_)
  refine A.cond rfl (fun hc => ?_) (fun hc => ?_)
  · have k3 : g.kind = 3 := by simpa using hc
    rw [k3] at hR
    (repeat' first|first|refine A.s rfl ?_|refine A.r rfl rfl ?_|refine A.w rfl rfl ?_|refine A.p rfl ?_|refine A.b rfl fun bx=>?_|refine A.t rfl fun bl=>?_|refine A.c rfl hin .refl ?_|((fail_if_success (refine A.lit? rfl ?_)); refine A.gS rfl (fun hc => ?_) (fun hc => ?_))|((fail_if_success (refine A.litP? rfl ?_)); refine A.gSP rfl (fun hc => ?_) (fun hc => ?_)))
    (all_goals (refine A.ret1 (Λ' := []) rfl rfl rfl (List.nil_sublist _) ⟨?_, rfl⟩; refine Sb.eq (ab_eq ?_)))
    all_goals (clear hin hft hfc; simp_all)
  have k3 : g.kind ≠ 3 := by simpa using hc
  (repeat refine A.s rfl ?_)
  refine A.cond rfl (fun hc => ?_) (fun hc => ?_)
  · have k4 : g.kind = 4 := by simpa using hc
    rw [k4] at hR
    (repeat' first|first|refine A.s rfl ?_|refine A.r rfl rfl ?_|refine A.w rfl rfl ?_|refine A.p rfl ?_|refine A.b rfl fun bx=>?_|refine A.t rfl fun bl=>?_|refine A.c rfl hft .refl ?_|((fail_if_success (refine A.lit? rfl ?_)); refine A.gS rfl (fun hc => ?_) (fun hc => ?_))|((fail_if_success (refine A.litP? rfl ?_)); refine A.gSP rfl (fun hc => ?_) (fun hc => ?_)))
    (all_goals (refine A.ret1 (Λ' := []) rfl rfl rfl (List.nil_sublist _) ⟨?_, rfl⟩; refine Sb.eq (ab_eq ?_)))
    all_goals (clear hin hft hfc; simp_all)
  have k4 : g.kind ≠ 4 := by simpa using hc
  rw [if_neg (fun h => h.elim k1 k2), if_neg k3, if_neg k4, Bool.and_false] at hR
  (repeat refine A.s rfl ?_); refine A.ret1 (Λ' := []) rfl rfl rfl (List.nil_sublist _) ⟨?_, rfl⟩; rw [hR]; exact .refl
theorem rguard_p (k : KN) (kind : Int) (g : GD) (hw : WfG g) : Pure Tryz.prog gs0 69 [encN k, AU8 kind, cellsG g] (AB (guardB k.vars k.chans.length g (kind == 12))) := by
  have hfc := rFits_p k.vars g.cond hw.cond 3
  have hft := rFits_p k.vars g.time hw.time 1
  have hin := rinput_p k g.c g.item g.to hw.to
  unfold guardB
  by_cases hb : g.body.length = 1
  case neg =>
    rw [show (g.body.length == 1) = false from beq_eq_false_iff_ne.2 hb]
    exact rguard_a k kind g hb
  rw [show (g.body.length == 1) = true from beq_iff_eq.2 hb, Bool.true_and]
  cases hf : fitV k.vars g.cond 3 with
  | false =>
    rw [hf] at hfc
    exact rguard_b k kind g hb hfc
  | true =>
    rw [hf] at hfc
    refine rguard_c k kind g hb hfc _ _ hft hin _ fun cb z w e1 e2 e3 => ?_
    subst e1; subst e2; subst e3
    rw [Bool.true_and, plainGB_eq, plainGB_eq, plainGB_eq]
    simp only [Bool.false_or, Bool.true_or, Bool.true_and, Bool.and_true]
end Go.Proofs.YtgmeahcclogfmaaGreatDoor
/-!
  Layer 16: a process by itself, by the reference.
-/
namespace Go.Proofs.YtgmeahcclogfmaaGreatDoor
open Go Go.Tp
set_option linter.unusedVariables false
set_option linter.unusedSimpArgs false
set_option maxRecDepth 100000
set_option maxHeartbeats 4000000
theorem typed_3 (k : KN) (c v it : Int) (to : List PL) (e : List KE) (gs : List GD) (b : List PR) : Pure Tryz.prog gs0 47 [encN k, cellsR ⟨3, c, v, it, to, e, gs, b⟩] (AB (decide (0 ≤ v) && decide (v < k.vars.length))) := by
  have hlen : ((k.vars.map encV).length : Int) = k.vars.length := by rw [List.length_map]
  rw [← hlen]
  refine Pure.of (S := tt) (fn := Tryz.f47) (n := 158) tt_ok Tryz.func47 rfl rfl rfl rfl fun w0 h0 F hgs => ?_
  (repeat first|refine A.s rfl ?_|refine A.r rfl rfl ?_|refine A.b rfl fun bx=>?_)
  ((fail_if_success (refine A.lit? rfl ?_)); refine A.gS rfl (fun hc => ?_) (fun hc => ?_))
  · (repeat first|refine A.s rfl ?_|refine A.r rfl rfl ?_); refine A.ret1 (Λ' := []) rfl rfl rfl (List.nil_sublist _) ⟨?_, rfl⟩; refine Sb.eq (ab_eq ?_); have hc : decide (0 ≤ v) = true := hc; rw [hc]; rfl
  · (repeat refine A.s rfl ?_); refine A.ret1 (Λ' := []) rfl rfl rfl (List.nil_sublist _) ⟨?_, rfl⟩; refine Sb.eq (ab_eq ?_); have hc : decide (0 ≤ v) = false := hc; rw [hc]; rfl
theorem typed_5 (k : KN) (c v it : Int) (t : PL) (hw : wfPl t) (e : List KE) (gs : List GD) (b : List PR) : Pure Tryz.prog gs0 47 [encN k, cellsR ⟨5, c, v, it, [t], e, gs, b⟩] (AB (inputB k.vars k.chans.length c it t)) := by
  have hin := rinput_p k c it t hw
  generalize inputB k.vars k.chans.length c it t = R at hin ⊢
  refine Pure.of (S := tt) (fn := Tryz.f47) (n := 158) tt_ok Tryz.func47 rfl rfl rfl rfl fun w0 h0 F hgs => ?_
  (repeat first|refine A.s rfl ?_|refine A.r rfl rfl ?_|refine A.b rfl fun bx=>?_)
  refine A.draw 9 [0, 1, 2, 3, 4, 5, 6, 7, 8] noPubs [] (by kernel_rfl) (by kernel_rfl) ?_
  (repeat first|refine WA.s rfl ?_|refine WA.r rfl rfl ?_)
  refine WA.x rfl (by decide) rfl rfl rfl ?_
  (repeat refine WA.s rfl ?_)
  refine WA.nil (l := []) rfl ?_
  skip
  refine A.c rfl hin .refl ?_
  (repeat refine A.s rfl ?_); refine A.ret1 (Λ' := []) rfl rfl rfl (List.nil_sublist _) ⟨?_, rfl⟩; exact .refl
theorem typed_6 (k : KN) (c v it : Int) (to : List PL) (x : KE) (hw : wfK x) (gs : List GD) (b : List PR) : Pure Tryz.prog gs0 47 [encN k, cellsR ⟨6, c, v, it, to, [x], gs, b⟩] (AB (chanB k.chans.length c it 0 && fitV k.vars x it)) := by
  have hin := routput_p k c it x hw
  generalize (chanB k.chans.length c it 0 && fitV k.vars x it) = R at hin ⊢
  have he : (encKl [x])[(0 : Int).toNat]? = some (encK x) := encKl_at rfl
  refine Pure.of (S := tt) (fn := Tryz.f47) (n := 158) tt_ok Tryz.func47 rfl rfl rfl rfl fun w0 h0 F hgs => ?_
  (repeat first|refine A.s rfl ?_|refine A.r rfl rfl ?_|refine A.b rfl fun bx=>?_)
  refine A.draw 9 [0, 1, 2, 3, 4, 5, 6, 7, 8] noPubs [] (by kernel_rfl) (by kernel_rfl) ?_
  (repeat first|refine WA.s rfl ?_|refine WA.r rfl rfl ?_)
  refine WA.x rfl (by decide) he (encK_eq x) rfl ?_
  (repeat refine WA.s rfl ?_)
  refine WA.nil (l := []) rfl ?_
  skip
  refine A.c rfl hin .refl ?_
  (repeat refine A.s rfl ?_); refine A.ret1 (Λ' := []) rfl rfl rfl (List.nil_sublist _) ⟨?_, rfl⟩; exact .refl
theorem typed_7 (k : KN) (c v it : Int) (t : PL) (hw : wfPl t) (e : List KE) (gs : List GD) (b : List PR) : Pure Tryz.prog gs0 47 [encN k, cellsR ⟨7, c, v, it, [t], e, gs, b⟩] (AB (placeB k.vars t 1)) := by
  have hin := rplace_p k.vars t hw 1
  generalize placeB k.vars t 1 = R at hin ⊢
  refine Pure.of (S := tt) (fn := Tryz.f47) (n := 158) tt_ok Tryz.func47 rfl rfl rfl rfl fun w0 h0 F hgs => ?_
  (repeat first|refine A.s rfl ?_|refine A.r rfl rfl ?_|refine A.b rfl fun bx=>?_)
  refine A.draw 6 [0, 1, 2, 3, 4, 5] noPubs [] (by kernel_rfl) (by kernel_rfl) ?_
  (repeat first|refine WA.s rfl ?_|refine WA.r rfl rfl ?_)
  refine WA.x rfl (by decide) rfl rfl rfl ?_
  (repeat refine WA.s rfl ?_)
  refine WA.nil (l := []) rfl ?_
  skip
  refine A.c rfl hin .refl ?_
  (repeat refine A.s rfl ?_); refine A.ret1 (Λ' := []) rfl rfl rfl (List.nil_sublist _) ⟨?_, rfl⟩; exact .refl
theorem typed_8 (k : KN) (c v it : Int) (to : List PL) (x : KE) (hw : wfK x) (gs : List GD) (b : List PR) : Pure Tryz.prog gs0 47 [encN k, cellsR ⟨8, c, v, it, to, [x], gs, b⟩] (AB (fitV k.vars x 1)) := by
  have hin := rFits_p k.vars x hw 1
  generalize fitV k.vars x 1 = R at hin ⊢
  have he : (encKl [x])[(0 : Int).toNat]? = some (encK x) := encKl_at rfl
  refine Pure.of (S := tt) (fn := Tryz.f47) (n := 158) tt_ok Tryz.func47 rfl rfl rfl rfl fun w0 h0 F hgs => ?_
  (repeat first|refine A.s rfl ?_|refine A.r rfl rfl ?_|refine A.b rfl fun bx=>?_)
  refine A.draw 6 [0, 1, 2, 3, 4, 5] noPubs [] (by kernel_rfl) (by kernel_rfl) ?_
  (repeat first|refine WA.s rfl ?_|refine WA.r rfl rfl ?_)
  refine WA.x rfl (by decide) he (encK_eq x) rfl ?_
  (repeat refine WA.s rfl ?_)
  refine WA.nil (l := []) rfl ?_
  skip
  refine A.c rfl hin .refl ?_
  (repeat refine A.s rfl ?_); refine A.ret1 (Λ' := []) rfl rfl rfl (List.nil_sublist _) ⟨?_, rfl⟩; exact .refl
theorem typed_13 (k : KN) (c v it : Int) (to : List PL) (x : KE) (hw : wfK x) (gs : List GD) (b : List PR) : Pure Tryz.prog gs0 47 [encN k, cellsR ⟨13, c, v, it, to, [x], gs, b⟩] (AB (fitV k.vars x 3)) := by
  have hin := rFits_p k.vars x hw 3
  generalize fitV k.vars x 3 = R at hin ⊢
  have he : (encKl [x])[(0 : Int).toNat]? = some (encK x) := encKl_at rfl
  refine Pure.of (S := tt) (fn := Tryz.f47) (n := 158) tt_ok Tryz.func47 rfl rfl rfl rfl fun w0 h0 F hgs => ?_
  (repeat first|refine A.s rfl ?_|refine A.r rfl rfl ?_|refine A.b rfl fun bx=>?_)
  refine A.draw 6 [0, 1, 2, 3, 4, 5] noPubs [] (by kernel_rfl) (by kernel_rfl) ?_
  (repeat first|refine WA.s rfl ?_|refine WA.r rfl rfl ?_)
  refine WA.x rfl (by decide) he (encK_eq x) rfl ?_
  (repeat refine WA.s rfl ?_)
  refine WA.nil (l := []) rfl ?_
  skip
  refine A.c rfl hin .refl ?_
  (repeat refine A.s rfl ?_); refine A.ret1 (Λ' := []) rfl rfl rfl (List.nil_sublist _) ⟨?_, rfl⟩; exact .refl
theorem typed_g (k : KN) (p : PR) (hk : p.kind ≠ 3 ∧ p.kind ≠ 4 ∧ p.kind ≠ 5 ∧ p.kind ≠ 6 ∧ p.kind ≠ 7 ∧ p.kind ≠ 8 ∧ p.kind ≠ 13) (hwg : ∀ g, g ∈ p.gs → wfG g) (hgl : p.gs.length ≤ 281474976710656) (R : Bool) (hR : (p.gs.all fun g => guardB k.vars k.chans.length g (p.kind == 12)) = R) : Pure Tryz.prog gs0 47 [encN k, cellsR p] (AB R) := by
  refine Pure.of (S := tt) (fn := Tryz.f47) (n := 158) tt_ok Tryz.func47 rfl rfl rfl rfl fun w0 h0 F hgs => ?_
  (repeat (first | first|refine A.s rfl ?_|refine A.r rfl rfl ?_|refine A.w rfl rfl ?_|refine A.p rfl ?_|refine A.b rfl fun bx=>?_|refine A.t rfl fun bl=>?_ | refine A.cond rfl (fun h => (by simp at h; omega)) (fun _ => ?_) | first|refine A.step rfl ?_|refine A.v rfl rfl ?_))
  skip
  refine A.keep [2, 3, 7] rfl ?_
  refine A.loopP (ι := Nat) (fun i => (⟨[(2, ptrA _), (3, ptrA _), (7, AI (i : Nat))], []⟩, [.box _ (cellsR p), .box _ (encN k)])) (fun i => i ≤ p.gs.length ∧ ((p.gs.drop i).all fun g => guardB k.vars k.chans.length g (p.kind == 12)) = R) (fun i => p.gs.length - i) 0 ⟨Nat.zero_le _, hR⟩ rfl fun i hi ih => ?_
  (repeat first|refine A.s rfl ?_|refine A.r rfl rfl ?_)
  refine A.valE 145 rfl (x' := AB (decide (i < p.gs.length))) (ab_eq (by rw [encGl_len, Bool.eq_iff_iff]; simp)) ?_
  refine A.cond rfl (fun hc => ?_) (fun hc => ?_)
  · have hc : i < p.gs.length := by simpa using hc
    refine Exists.elim (at_exN (l := p.gs) (i := i) hc) fun g hg => ?_
    have hgp := rguard_p k p.kind g (wfG_all (hwg g (List.mem_of_getElem? hg)))
    have h1 := hi.2
    rw [drop_at hg, List.all_cons] at h1
    (repeat refine A.s rfl ?_)
    refine A.draw 8 [0, 1, 2, 3, 4, 5, 6, 7] noPubs [] (by kernel_rfl) (by kernel_rfl) ?_
    (repeat first|refine WA.s rfl ?_|refine WA.r rfl rfl ?_)
    refine WA.x rfl (by omega) (encGl_at hg) (encG_eq g) rfl ?_
    (repeat refine WA.s rfl ?_)
    refine WA.nil (l := []) rfl ?_
    skip
    refine A.c rfl hgp .refl ?_
    (repeat refine A.s rfl ?_)
    refine A.cond rfl (fun hc => ?_) (fun hc => ?_)
    · have hf : guardB k.vars k.chans.length g (p.kind == 12) = false := by simpa using hc
      rw [hf, Bool.false_and] at h1
      (repeat refine A.s rfl ?_); refine A.ret1 (Λ' := []) rfl rfl rfl (List.nil_sublist _) ⟨?_, rfl⟩; rw [← h1]; exact .refl
    · have hf : guardB k.vars k.chans.length g (p.kind == 12) = true := by simpa using hc
      rw [hf, Bool.true_and] at h1
      (repeat refine A.s rfl ?_)
      refine A.valE 7 rfl (x' := AI ((i + 1 : Nat) : Int)) (inc_eq i (by omega)) ?_
      refine A.sub (by repeat (first | exact trivial | refine ⟨⟨_, rfl, .refl⟩, ?_⟩)) (ih (i + 1) ⟨by omega, h1⟩ (by omega))
  · have hc : ¬ i < p.gs.length := by simpa using hc
    have hil : i = p.gs.length := by omega
    have h1 := hi.2
    rw [hil, List.drop_length, List.all_nil] at h1
    (repeat refine A.s rfl ?_); refine A.ret1 (Λ' := []) rfl rfl rfl (List.nil_sublist _) ⟨?_, rfl⟩; rw [← h1]; exact .refl
end Go.Proofs.YtgmeahcclogfmaaGreatDoor
