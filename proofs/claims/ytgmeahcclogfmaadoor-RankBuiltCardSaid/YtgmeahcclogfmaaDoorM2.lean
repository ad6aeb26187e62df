/-
  Texts Q16i Q16j Q16k Q16l Q16m Q16n Q16o Q16p Q16q Q16r Q16s Q16t Q16u R23a S22a S22b S22c, in one. Conditions: as each theorem says.
-/
import Derived.Test.YtgmeahcclogfmaaDoorM1
import Derived.Test.YtgmeahcclogfmaaDoorLg
import Derived.Test.YtgmeahcclogfmaaDoorLh
import Derived.Test.YtgmeahcclogfmaaDoorLc
import Derived.Test.YtgmeahcclogfmaaDoorTpT
import Derived.Test.YtgmeahcclogfmaaDoorLb
/-!
  Layer 16: the checks of the kinds, by the program.
-/
namespace Go.Proofs.YtgmeahcclogfmaaDoor
open Go Go.Tp
set_option linter.unusedVariables false
set_option linter.unusedSimpArgs false
set_option maxRecDepth 100000
set_option maxHeartbeats 4000000
section
variable (l : List KV) (ch : List Int)
/-! ### the kinds -/
variable (hl : l.length ≤ 281474976710656) (hv : VarsOk l)
def IsCheck (f : FuncId) (p : PR) : Prop := ∀ (x : Nat → AV) (lf : Int), Pure Tryd.prog gs0 f [ckP l ch x lf, cellsR p] (AB (kindB l ch.length p))
theorem nothing_p (p : PR) (hk : p.kind = 1 ∨ p.kind = 2) : IsCheck l ch 39 p := fun x lf => by
  have hs := shape_p p false false 0 0 0 0 0 0 0 0
  have he : kindB l ch.length p = shapeR p false false 0 0 0 0 0 0 0 0 := by rw [kindB, if_pos hk]
  rw [he]
  refine Pure.of (S := tt) (fn := Tryd.f39) (n := 11) tt_ok Tryd.func39 rfl rfl rfl rfl fun w0 h0 F hgs => ?_
  (repeat first|refine A.s rfl ?_|refine A.r rfl rfl ?_|refine A.b rfl fun bx=>?_); refine A.c rfl hs .refl ?_; (repeat refine A.s rfl ?_); refine A.ret1 (Λ' := []) rfl rfl rfl (List.nil_sublist _) ⟨?_, rfl⟩; exact .refl
theorem seq_p (p : PR) (hk : p.kind = 9) : IsCheck l ch 46 p := fun x lf => by
  have hs := shape_p p false false 0 0 0 0 0 0 0 2048
  have he : kindB l ch.length p = shapeR p false false 0 0 0 0 0 0 0 2048 := by simp [kindB, hk]
  rw [he]
  refine Pure.of (S := tt) (fn := Tryd.f46) (n := 11) tt_ok Tryd.func46 rfl rfl rfl rfl fun w0 h0 F hgs => ?_
  (repeat first|refine A.s rfl ?_|refine A.r rfl rfl ?_|refine A.b rfl fun bx=>?_); refine A.c rfl hs .refl ?_; (repeat refine A.s rfl ?_); refine A.ret1 (Λ' := []) rfl rfl rfl (List.nil_sublist _) ⟨?_, rfl⟩; exact .refl
theorem par_p (p : PR) (hk : p.kind = 10) : IsCheck l ch 47 p := fun x lf => by
  have hs := shape_p p false false 0 0 0 0 0 0 0 16
  have he : kindB l ch.length p = shapeR p false false 0 0 0 0 0 0 0 16 := by simp [kindB, hk]
  rw [he]
  refine Pure.of (S := tt) (fn := Tryd.f47) (n := 11) tt_ok Tryd.func47 rfl rfl rfl rfl fun w0 h0 F hgs => ?_
  (repeat first|refine A.s rfl ?_|refine A.r rfl rfl ?_|refine A.b rfl fun bx=>?_); refine A.c rfl hs .refl ?_; (repeat refine A.s rfl ?_); refine A.ret1 (Λ' := []) rfl rfl rfl (List.nil_sublist _) ⟨?_, rfl⟩; exact .refl
theorem pri_p (p : PR) (hk : p.kind = 11) : IsCheck l ch 48 p := fun x lf => by
  have hs := shape_p p false false 0 0 0 0 0 0 2 2
  have he : kindB l ch.length p = shapeR p false false 0 0 0 0 0 0 2 2 := by simp [kindB, hk]
  rw [he]
  refine Pure.of (S := tt) (fn := Tryd.f48) (n := 11) tt_ok Tryd.func48 rfl rfl rfl rfl fun w0 h0 F hgs => ?_
  (repeat first|refine A.s rfl ?_|refine A.r rfl rfl ?_|refine A.b rfl fun bx=>?_); refine A.c rfl hs .refl ?_; (repeat refine A.s rfl ?_); refine A.ret1 (Λ' := []) rfl rfl rfl (List.nil_sublist _) ⟨?_, rfl⟩; exact .refl
theorem clear_p (p : PR) (hk : p.kind = 3) : IsCheck l ch 40 p := fun x lf => by
  have hs := shape_p p false true 0 0 0 0 0 0 0 0
  have hlen : ((l.map encV).length : Int) = l.length := by rw [List.length_map]
  have he : kindB l ch.length p = (shapeR p false true 0 0 0 0 0 0 0 0 && decide (0 ≤ p.v) && decide (p.v < ((l.map encV).length : Int))) := by rw [hlen]; simp [kindB, hk]
  rw [he]
  generalize shapeR p false true 0 0 0 0 0 0 0 0 = b at hs ⊢
  refine Pure.of (S := tt) (fn := Tryd.f40) (n := 27) tt_ok Tryd.func40 rfl rfl rfl rfl fun w0 h0 F hgs => ?_
  (repeat first|refine A.s rfl ?_|refine A.b rfl fun bx=>?_)
  refine A.draw 20 [0, 1, 2, 3, 4, 5, 6, 7, 8, 9, 10, 11, 12, 13, 14, 15, 16, 17, 18, 19] noPubs [(5, AB b)] (by kernel_rfl) (by kernel_rfl) ?_
  (repeat first|refine WA.s rfl ?_|refine WA.r rfl rfl ?_)
  refine WA.c rfl rfl hs (.sub .refl) ?_
  (repeat refine WA.s rfl ?_)
  refine WA.gS rfl (fun hc => ?_) (fun hc => ?_)
  · (repeat first|refine WA.s rfl ?_|refine WA.r rfl rfl ?_)
    refine WA.gS rfl (fun hd => ?_) (fun hd => ?_)
    · (repeat first|refine WA.s rfl ?_|refine WA.r rfl rfl ?_)
      refine WA.nil (l := []) rfl ?_
      (repeat refine A.s rfl ?_); refine A.ret1 (Λ' := []) rfl rfl rfl (List.nil_sublist _) ⟨?_, rfl⟩; refine Sb.eq (ab_eq ?_); have hd : decide (0 ≤ p.v) = true := hd; rw [hc, hd]; rfl
    · (repeat refine WA.s rfl ?_)
      refine WA.nil (l := []) rfl ?_
      (repeat refine A.s rfl ?_); refine A.ret1 (Λ' := []) rfl rfl rfl (List.nil_sublist _) ⟨?_, rfl⟩; refine Sb.eq (ab_eq ?_); have hd : decide (0 ≤ p.v) = false := hd; rw [hc, hd]; rfl
  · (repeat refine WA.s rfl ?_)
    refine WA.nil (l := []) rfl ?_
    (repeat refine A.s rfl ?_); refine A.ret1 (Λ' := []) rfl rfl rfl (List.nil_sublist _) ⟨?_, rfl⟩; refine Sb.eq (ab_eq ?_); rw [hc]; rfl
theorem rng11 {n : Nat} (h : inB n 1 1 = true) : n = 1 := by
  simp only [inB, Bool.and_eq_true, decide_eq_true_eq] at h; omega
theorem shape_to {p : PR} {c v : Bool} {e1 e2 g1 g2 l1 l2 : Int} (h : shapeR p c v 1 1 e1 e2 g1 g2 l1 l2 = true) : ∃ t, p.to = [t] := by
  simp only [shapeR, Bool.and_eq_true] at h
  have := rng11 h.1.1.1.2
  match hh : p.to, this with
  | [t], _ => exact ⟨t, rfl⟩
theorem shape_e {p : PR} {c v : Bool} {t1 t2 g1 g2 l1 l2 : Int} (h : shapeR p c v t1 t2 1 1 g1 g2 l1 l2 = true) : ∃ t, p.e = [t] := by
  simp only [shapeR, Bool.and_eq_true] at h
  have := rng11 h.1.1.2
  match hh : p.e, this with
  | [t], _ => exact ⟨t, rfl⟩
include hl hv
theorem in16_p (p : PR) (hw : WfR p) (hk : p.kind = 5) : IsCheck l ch 42 p := fun x lf => by
  have hs := shape_p p true false 1 1 0 0 0 0 0 0
  have he : kindB l ch.length p = (shapeR p true false 1 1 0 0 0 0 0 0 && to1 (inputB l ch.length p.c p.item) p.to) := by simp [kindB, hk]
  rw [he]
  cases hb : shapeR p true false 1 1 0 0 0 0 0 0 with
  | false =>
    rw [hb] at hs
    refine Pure.of (S := tt) (fn := Tryd.f42) (n := 23) tt_ok Tryd.func42 rfl rfl rfl rfl fun w0 h0 F hgs => ?_
    (repeat first|refine A.s rfl ?_|refine A.b rfl fun bx=>?_)
    refine A.draw 16 [0, 1, 2, 3, 4, 5, 6, 7, 8, 9, 10, 11, 12, 13, 14, 15] noPubs [(5, AB false)] (by kernel_rfl) (by kernel_rfl) ?_
    (repeat first|refine WA.s rfl ?_|refine WA.r rfl rfl ?_)
    refine WA.c rfl rfl hs (.sub .refl) ?_
    (repeat refine WA.s rfl ?_)
    refine WA.nil (l := []) rfl ?_
    (repeat refine A.s rfl ?_); refine A.ret1 (Λ' := []) rfl rfl rfl (List.nil_sublist _) ⟨?_, rfl⟩; exact .refl
  | true =>
    rw [hb] at hs
    obtain ⟨t, ht⟩ := shape_to hb
    have hin := input_p l ch x lf hl hv p.c p.item t (hw.to t (by rw [ht]; exact List.mem_cons_self ..))
    have h1 : to1 (inputB l ch.length p.c p.item) p.to = inputB l ch.length p.c p.item t := by rw [ht]; rfl
    rw [h1]
    refine Pure.of (S := tt) (fn := Tryd.f42) (n := 23) tt_ok Tryd.func42 rfl rfl rfl rfl fun w0 h0 F hgs => ?_
    (repeat first|refine A.s rfl ?_|refine A.b rfl fun bx=>?_)
    refine A.draw 16 [0, 1, 2, 3, 4, 5, 6, 7, 8, 9, 10, 11, 12, 13, 14, 15] noPubs [(5, AB true)] (by kernel_rfl) (by kernel_rfl) ?_
    (repeat first|refine WA.s rfl ?_|refine WA.r rfl rfl ?_)
    refine WA.c rfl rfl hs (.sub .refl) ?_
    (repeat first|refine WA.s rfl ?_|refine WA.r rfl rfl ?_)
    refine WA.x rfl (by decide) (show (p.to.map encPl)[(0 : Int).toNat]? = some (encPl t) from map_at (by rw [ht]; rfl)) rfl rfl ?_
    (repeat refine WA.s rfl ?_)
    refine WA.nil (l := []) rfl ?_
    skip
    refine A.c rfl hin .refl ?_
    (repeat refine A.s rfl ?_); refine A.ret1 (Λ' := []) rfl rfl rfl (List.nil_sublist _) ⟨?_, rfl⟩; exact .refl
omit hl hv in
theorem out_a (p : PR) (x : Nat → AV) (lf : Int) (hs : Pure Tryd.prog gs0 52 [cellsR p, AB true, AB false, twoA 0 0, twoA 1 1, twoA 0 0, twoA 0 0] (AB false)) : Pure Tryd.prog gs0 43 [ckP l ch x lf, cellsR p] (AB false) := by
  refine Pure.of (S := tt) (fn := Tryd.f43) (n := 29) tt_ok Tryd.func43 rfl rfl rfl rfl fun w0 h0 F hgs => ?_
  (repeat first|refine A.s rfl ?_|refine A.b rfl fun bx=>?_)
  refine A.draw 22 [0, 1, 2, 3, 4, 5, 6, 7, 8, 9, 10, 11, 12, 13, 14, 15, 16, 17, 18, 19, 20, 21] noPubs [(5, AB false), (12, AB false)] (by kernel_rfl) (by kernel_rfl) ?_
  (repeat first|refine WA.s rfl ?_|refine WA.r rfl rfl ?_)
  refine WA.c rfl rfl hs (.sub .refl) ?_
  (repeat refine WA.s rfl ?_)
  refine WA.nil (l := []) rfl ?_
  (repeat refine A.s rfl ?_); refine A.ret1 (Λ' := []) rfl rfl rfl (List.nil_sublist _) ⟨?_, rfl⟩; exact .refl
omit hl hv in
theorem out_b (p : PR) (x : Nat → AV) (lf : Int) (hs : Pure Tryd.prog gs0 52 [cellsR p, AB true, AB false, twoA 0 0, twoA 1 1, twoA 0 0, twoA 0 0] (AB true)) (hch : Pure Tryd.prog gs0 56 [ckP l ch x lf, AI p.c, AU8 p.item, AI 0] (AB false)) :
    Pure Tryd.prog gs0 43 [ckP l ch x lf, cellsR p] (AB false) := by
  refine Pure.of (S := tt) (fn := Tryd.f43) (n := 29) tt_ok Tryd.func43 rfl rfl rfl rfl fun w0 h0 F hgs => ?_
  (repeat first|refine A.s rfl ?_|refine A.b rfl fun bx=>?_)
  refine A.draw 22 [0, 1, 2, 3, 4, 5, 6, 7, 8, 9, 10, 11, 12, 13, 14, 15, 16, 17, 18, 19, 20, 21] noPubs [(5, AB true), (12, AB false)] (by kernel_rfl) (by kernel_rfl) ?_
  (repeat first|refine WA.s rfl ?_|refine WA.r rfl rfl ?_)
  refine WA.c rfl rfl hs (.sub .refl) ?_
  (repeat first|refine WA.s rfl ?_|refine WA.r rfl rfl ?_)
  refine WA.c rfl rfl hch (.sub .refl) ?_
  (repeat refine WA.s rfl ?_)
  refine WA.nil (l := []) rfl ?_
  (repeat refine A.s rfl ?_); refine A.ret1 (Λ' := []) rfl rfl rfl (List.nil_sublist _) ⟨?_, rfl⟩; exact .refl
omit hl hv in
theorem out_c (p : PR) (x : Nat → AV) (lf : Int) (e : KE) (bf : Bool) (he : (encKl p.e)[(0 : Int).toNat]? = some (encK e)) (hs : Pure Tryd.prog gs0 52 [cellsR p, AB true, AB false, twoA 0 0, twoA 1 1, twoA 0 0, twoA 0 0] (AB true)) (hch : Pure Tryd.prog gs0 56 [ckP l ch x lf, AI p.c, AU8 p.item, AI 0] (AB true))
    (hf : Pure Tryd.prog gs0 54 [ckP l ch x lf, cellsK e, AU8 p.item] (AB bf)) : Pure Tryd.prog gs0 43 [ckP l ch x lf, cellsR p] (AB bf) := by
  refine Pure.of (S := tt) (fn := Tryd.f43) (n := 29) tt_ok Tryd.func43 rfl rfl rfl rfl fun w0 h0 F hgs => ?_
  (repeat first|refine A.s rfl ?_|refine A.b rfl fun bx=>?_)
  refine A.draw 22 [0, 1, 2, 3, 4, 5, 6, 7, 8, 9, 10, 11, 12, 13, 14, 15, 16, 17, 18, 19, 20, 21] noPubs [(5, AB true), (12, AB true)] (by kernel_rfl) (by kernel_rfl) ?_
  (repeat first|refine WA.s rfl ?_|refine WA.r rfl rfl ?_)
  refine WA.c rfl rfl hs (.sub .refl) ?_
  (repeat first|refine WA.s rfl ?_|refine WA.r rfl rfl ?_)
  refine WA.c rfl rfl hch (.sub .refl) ?_
  (repeat first|refine WA.s rfl ?_|refine WA.r rfl rfl ?_)
  refine WA.x rfl (by decide) he (encK_eq e) rfl ?_
  (repeat first|refine WA.s rfl ?_|refine WA.r rfl rfl ?_)
  refine WA.nil (l := []) rfl ?_
  skip
  refine A.c rfl hf .refl ?_
  (repeat refine A.s rfl ?_); refine A.ret1 (Λ' := []) rfl rfl rfl (List.nil_sublist _) ⟨?_, rfl⟩; exact .refl
theorem out16_p (p : PR) (hw : WfR p) (hk : p.kind = 6) : IsCheck l ch 43 p := fun x lf => by
  have hs := shape_p p true false 0 0 1 1 0 0 0 0
  have he : kindB l ch.length p = (shapeR p true false 0 0 1 1 0 0 0 0 && chanB ch.length p.c p.item 0 && fit1 l p.e p.item) := by simp [kindB, hk]
  rw [he]
  cases hb : shapeR p true false 0 0 1 1 0 0 0 0 with
  | false => rw [hb] at hs; exact out_a l ch p x lf hs
  | true =>
  rw [hb] at hs
  obtain ⟨e, ht⟩ := shape_e hb
  have hch := chan_p l ch x lf p.c p.item 0
  have h1 : fit1 l p.e p.item = fitV l e p.item := by rw [ht]; rfl
  rw [h1]
  cases hc : chanB ch.length p.c p.item 0 with
  | false => rw [hc] at hch; exact out_b l ch p x lf hs hch
  | true =>
    rw [hc] at hch
    have hpi : 1 ≤ p.item ∧ p.item ≤ 3 := by simp only [chanB, primB, Bool.and_eq_true, decide_eq_true_eq] at hc; omega
    have hf := kfit_p l ch x lf hl hv e (hw.e e (by rw [ht]; exact List.mem_cons_self ..)) p.item hpi
    rw [Bool.and_self, Bool.true_and]
    exact out_c l ch p x lf e _ (encKl_at (by rw [ht]; rfl)) hs hch hf
theorem time16_p (p : PR) (hw : WfR p) (hk : p.kind = 7) : IsCheck l ch 44 p := fun x lf => by
  have hs := shape_p p false false 1 1 0 0 0 0 0 0
  have he : kindB l ch.length p = (shapeR p false false 1 1 0 0 0 0 0 0 && to1 (fun t => placeB l t 1) p.to) := by simp [kindB, hk]
  rw [he]
  cases hb : shapeR p false false 1 1 0 0 0 0 0 0 with
  | false =>
    rw [hb] at hs
    refine Pure.of (S := tt) (fn := Tryd.f44) (n := 19) tt_ok Tryd.func44 rfl rfl rfl rfl fun w0 h0 F hgs => ?_
    (repeat first|refine A.s rfl ?_|refine A.r rfl rfl ?_|refine A.b rfl fun bx=>?_); refine A.c rfl hs .refl ?_; (repeat refine A.s rfl ?_); refine A.ret1 (Λ' := []) rfl rfl rfl (List.nil_sublist _) ⟨?_, rfl⟩; exact .refl
  | true =>
    rw [hb] at hs
    obtain ⟨t, ht⟩ := shape_to hb
    have hin := place_p l ch x lf hl hv t (hw.to t (by rw [ht]; exact List.mem_cons_self ..)) 1
    have h1 : to1 (fun t => placeB l t 1) p.to = placeB l t 1 := by rw [ht]; rfl
    rw [h1]
    refine Pure.of (S := tt) (fn := Tryd.f44) (n := 19) tt_ok Tryd.func44 rfl rfl rfl rfl fun w0 h0 F hgs => ?_
    (repeat first|refine A.s rfl ?_|refine A.r rfl rfl ?_|refine A.b rfl fun bx=>?_); refine A.c rfl hs .refl ?_; (repeat first|refine A.s rfl ?_|refine A.r rfl rfl ?_)
    refine A.x rfl (by decide) (show (p.to.map encPl)[(0 : Int).toNat]? = some (encPl t) from map_at (by rw [ht]; rfl)) rfl rfl ?_
    (repeat refine A.s rfl ?_); refine A.c rfl hin .refl ?_; (repeat refine A.s rfl ?_); refine A.ret1 (Λ' := []) rfl rfl rfl (List.nil_sublist _) ⟨?_, rfl⟩; exact .refl
theorem after16_p (p : PR) (hw : WfR p) (hk : p.kind = 8) : IsCheck l ch 45 p := fun x lf => by
  have hs := shape_p p false false 0 0 1 1 0 0 0 0
  have he : kindB l ch.length p = (shapeR p false false 0 0 1 1 0 0 0 0 && fit1 l p.e 1) := by simp [kindB, hk]
  rw [he]
  cases hb : shapeR p false false 0 0 1 1 0 0 0 0 with
  | false =>
    rw [hb] at hs
    refine Pure.of (S := tt) (fn := Tryd.f45) (n := 19) tt_ok Tryd.func45 rfl rfl rfl rfl fun w0 h0 F hgs => ?_
    (repeat first|refine A.s rfl ?_|refine A.r rfl rfl ?_|refine A.b rfl fun bx=>?_); refine A.c rfl hs .refl ?_; (repeat refine A.s rfl ?_); refine A.ret1 (Λ' := []) rfl rfl rfl (List.nil_sublist _) ⟨?_, rfl⟩; exact .refl
  | true =>
    rw [hb] at hs
    obtain ⟨e, ht⟩ := shape_e hb
    have hin := kfit_p l ch x lf hl hv e (hw.e e (by rw [ht]; exact List.mem_cons_self ..)) 1 (by decide)
    have h1 : fit1 l p.e 1 = fitV l e 1 := by rw [ht]; rfl
    rw [h1]
    refine Pure.of (S := tt) (fn := Tryd.f45) (n := 19) tt_ok Tryd.func45 rfl rfl rfl rfl fun w0 h0 F hgs => ?_
    (repeat first|refine A.s rfl ?_|refine A.r rfl rfl ?_|refine A.b rfl fun bx=>?_); refine A.c rfl hs .refl ?_; (repeat first|refine A.s rfl ?_|refine A.r rfl rfl ?_)
    refine A.x rfl (by decide) (show (encKl p.e)[(0 : Int).toNat]? = some (encK e) from encKl_at (by rw [ht]; rfl)) (encK_eq e) rfl ?_
    (repeat refine A.s rfl ?_); refine A.c rfl hin .refl ?_; (repeat refine A.s rfl ?_); refine A.ret1 (Λ' := []) rfl rfl rfl (List.nil_sublist _) ⟨?_, rfl⟩; exact .refl
theorem loop16_p (p : PR) (hw : WfR p) (hk : p.kind = 13) : IsCheck l ch 50 p := fun x lf => by
  have hs := shape_p p false false 0 0 1 1 0 0 1 1
  have he : kindB l ch.length p = (shapeR p false false 0 0 1 1 0 0 1 1 && fit1 l p.e 3) := by simp [kindB, hk]
  rw [he]
  cases hb : shapeR p false false 0 0 1 1 0 0 1 1 with
  | false =>
    rw [hb] at hs
    refine Pure.of (S := tt) (fn := Tryd.f50) (n := 19) tt_ok Tryd.func50 rfl rfl rfl rfl fun w0 h0 F hgs => ?_
    (repeat first|refine A.s rfl ?_|refine A.r rfl rfl ?_|refine A.b rfl fun bx=>?_); refine A.c rfl hs .refl ?_; (repeat refine A.s rfl ?_); refine A.ret1 (Λ' := []) rfl rfl rfl (List.nil_sublist _) ⟨?_, rfl⟩; exact .refl
  | true =>
    rw [hb] at hs
    obtain ⟨e, ht⟩ := shape_e hb
    have hin := kfit_p l ch x lf hl hv e (hw.e e (by rw [ht]; exact List.mem_cons_self ..)) 3 (by decide)
    have h1 : fit1 l p.e 3 = fitV l e 3 := by rw [ht]; rfl
    rw [h1]
    refine Pure.of (S := tt) (fn := Tryd.f50) (n := 19) tt_ok Tryd.func50 rfl rfl rfl rfl fun w0 h0 F hgs => ?_
    (repeat first|refine A.s rfl ?_|refine A.r rfl rfl ?_|refine A.b rfl fun bx=>?_); refine A.c rfl hs .refl ?_; (repeat first|refine A.s rfl ?_|refine A.r rfl rfl ?_)
    refine A.x rfl (by decide) (show (encKl p.e)[(0 : Int).toNat]? = some (encK e) from encKl_at (by rw [ht]; rfl)) (encK_eq e) rfl ?_
    (repeat refine A.s rfl ?_); refine A.c rfl hin .refl ?_; (repeat refine A.s rfl ?_); refine A.ret1 (Λ' := []) rfl rfl rfl (List.nil_sublist _) ⟨?_, rfl⟩; exact .refl
theorem choice1_p (x : Nat → AV) (lf : Int) (p : PR) (g : GD) (hw : WfG g) : Pure Tryd.prog gs0 58 [cellsG g, .pe 1 (ckP l ch x lf), .pe 8 (cellsR p)] (AB (!guardB l ch.length g (p.kind == 12))) := by
  have hg := guard_p l ch x lf hl hv g hw (p.kind == 12)
  refine Pure.of (S := tt) (fn := Tryd.f58) (n := 12) tt_ok Tryd.func58 rfl rfl rfl rfl fun w0 h0 F hgs => ?_
  (repeat first|refine A.s rfl ?_|refine A.r rfl rfl ?_|refine A.b rfl fun bx=>?_); refine A.c rfl hg .refl ?_; (repeat refine A.s rfl ?_); refine A.ret1 (Λ' := []) rfl rfl rfl (List.nil_sublist _) ⟨?_, rfl⟩; exact .refl
theorem choice16_p (p : PR) (hw : WfR p) (hk : p.kind = 12 ∨ p.kind = 14 ∨ p.kind = 15) : IsCheck l ch 49 p := fun x lf => by
  have hs := shape_p p false false 0 0 0 0 0 16 0 0
  have he : kindB l ch.length p = (shapeR p false false 0 0 0 0 0 16 0 0 && !p.gs.any fun g => !guardB l ch.length g (p.kind == 12)) := by
    rw [List.not_any_eq_all_not]; rcases hk with hk | hk | hk <;> simp [kindB, hk]
  rw [he]
  have hg := hasG_p 58 [.pe 1 (ckP l ch x lf), .pe 8 (cellsR p)] (fun g => !guardB l ch.length g (p.kind == 12)) p.gs (fun g hgm => choice1_p l ch hl hv x lf p g (wfG_all (hw.g g hgm))) hw.gl
  cases hb : shapeR p false false 0 0 0 0 0 16 0 0 with
  | false =>
    rw [hb] at hs
    refine Pure.of (S := tt) (fn := Tryd.f49) (n := 17) tt_ok Tryd.func49 rfl rfl rfl rfl fun w0 h0 F hgs => ?_
    (repeat first|refine A.s rfl ?_|refine A.r rfl rfl ?_|refine A.b rfl fun bx=>?_); refine A.c rfl hs .refl ?_; (repeat refine A.s rfl ?_); refine A.ret1 (Λ' := []) rfl rfl rfl (List.nil_sublist _) ⟨?_, rfl⟩; exact .refl
  | true =>
    rw [hb] at hs
    refine Pure.of (S := tt) (fn := Tryd.f49) (n := 17) tt_ok Tryd.func49 rfl rfl rfl rfl fun w0 h0 F hgs => ?_
    (repeat first|refine A.s rfl ?_|refine A.r rfl rfl ?_|refine A.b rfl fun bx=>?_); refine A.c rfl hs .refl ?_
    refine A.freeze 2 (sz := 1) rfl rfl rfl ?_
    refine A.freeze 3 (sz := 8) rfl rfl rfl ?_
    (repeat refine A.s rfl ?_); refine A.c rfl hg .refl ?_
    (repeat refine A.s rfl ?_); refine A.ret1 (Λ' := []) rfl rfl rfl (List.nil_sublist _) ⟨?_, rfl⟩; exact .refl
end
end Go.Proofs.YtgmeahcclogfmaaDoor
/-!
  Layer 16: assignments, by the program.
-/
namespace Go.Proofs.YtgmeahcclogfmaaDoor
open Go Go.Tp
set_option linter.unusedVariables false
set_option linter.unusedSimpArgs false
set_option maxRecDepth 100000
set_option maxHeartbeats 4000000
theorem zip_len {α β : Type} {a : List α} {b : List β} (h : a.length = b.length) : (a.zip b).length = a.length := by rw [List.length_zip, h, Nat.min_self]
theorem zip_both {α β : Type} {a : List α} {b : List β} {i : Nat} {x : α} {y : β} (h1 : a[i]? = some x) (h2 : b[i]? = some y) : (a.zip b)[i]? = some (x, y) := List.getElem?_zip_eq_some.2 ⟨h1, h2⟩
theorem assign_no {l : List KV} {t : PL} {e : KE} {r : List (PL × KE)} (h : assignB l t e = false) : ((t, e) :: r).all (fun te => assignB l te.1 te.2) = false := by rw [List.all_cons, h]; rfl
theorem assign_a (l : List KV) (ch : List Int) (p : PR) (x : Nat → AV) (lf : Int) (hs : Pure Tryd.prog gs0 52 [cellsR p, AB false, AB false, twoA 1 8, twoA 1 8, twoA 0 0, twoA 0 0] (AB false)) : Pure Tryd.prog gs0 41 [ckP l ch x lf, cellsR p] (AB false) := by
  refine Pure.of (S := tt) (fn := Tryd.f41) (n := 84) tt_ok Tryd.func41 rfl rfl rfl rfl fun w0 h0 F hgs => ?_
  (repeat first|refine A.s rfl ?_|refine A.r rfl rfl ?_|refine A.w rfl rfl ?_|refine A.b rfl fun bx=>?_); refine A.c rfl hs .refl ?_; (repeat refine A.s rfl ?_); refine A.ret1 (Λ' := []) rfl rfl rfl (List.nil_sublist _) ⟨?_, rfl⟩; exact .refl
theorem assign_b (l : List KV) (ch : List Int) (p : PR) (x : Nat → AV) (lf : Int) (hs : Pure Tryd.prog gs0 52 [cellsR p, AB false, AB false, twoA 1 8, twoA 1 8, twoA 0 0, twoA 0 0] (AB true)) (hle : p.to.length ≠ p.e.length) : Pure Tryd.prog gs0 41 [ckP l ch x lf, cellsR p] (AB false) := by
  have n1 : ((p.to.map encPl).length : Int) = p.to.length := by rw [List.length_map]
  have n2 : ((encKl p.e).length : Int) = p.e.length := by rw [encKl_len]
  refine Pure.of (S := tt) (fn := Tryd.f41) (n := 84) tt_ok Tryd.func41 rfl rfl rfl rfl fun w0 h0 F hgs => ?_
  (repeat first|refine A.s rfl ?_|refine A.r rfl rfl ?_|refine A.w rfl rfl ?_|refine A.b rfl fun bx=>?_); refine A.c rfl hs .refl ?_
  (repeat first|refine A.s rfl ?_|refine A.r rfl rfl ?_)
  refine A.valE 24 rfl (x' := AB true) (ab_eq (by rw [n1, n2]; simp; omega)) ?_
  (repeat refine A.s rfl ?_); refine A.ret1 (Λ' := []) rfl rfl rfl (List.nil_sublist _) ⟨?_, rfl⟩; exact .refl
theorem assign_c (l : List KV) (ch : List Int) (hl : l.length ≤ 281474976710656) (hv : VarsOk l) (p : PR) (hw : WfR p) (x : Nat → AV) (lf : Int) (hs : Pure Tryd.prog gs0 52 [cellsR p, AB false, AB false, twoA 1 8, twoA 1 8, twoA 0 0, twoA 0 0] (AB true)) (hle : p.to.length = p.e.length) (hto8 : p.to.length ≤ 8) (R : Bool) (hR : (p.to.zip p.e).all (fun te => assignB l te.1 te.2) = R) :
    Pure Tryd.prog gs0 41 [ckP l ch x lf, cellsR p] (AB R) := by
  have hlen : ((l.map encV).length : Int) = l.length := by rw [List.length_map]
  have n1 : ((p.to.map encPl).length : Int) = p.to.length := by rw [List.length_map]
  have n2 : ((encKl p.e).length : Int) = p.e.length := by rw [encKl_len]
  refine Pure.of (S := tt) (fn := Tryd.f41) (n := 84) tt_ok Tryd.func41 rfl rfl rfl rfl fun w0 h0 F hgs => ?_
  (repeat first|refine A.s rfl ?_|refine A.r rfl rfl ?_|refine A.w rfl rfl ?_|refine A.b rfl fun bx=>?_); refine A.c rfl hs .refl ?_
  (repeat first|refine A.s rfl ?_|refine A.r rfl rfl ?_)
  refine A.valE 24 rfl (x' := AB false) (ab_eq (by rw [n1, n2]; simp; omega)) ?_
  (repeat first|refine A.s rfl ?_|refine A.r rfl rfl ?_)
  refine A.valE 27 rfl (x' := AI (p.to.length : Nat)) (ai_eq n1) ?_
  refine A.less (Λ' := [.box _ (cellsR p)]) (by repeat (first | exact List.Sublist.refl _ | apply List.Sublist.cons_cons | apply List.Sublist.cons)) ?_
  refine A.keep [0, 3, 26, 27, 28] rfl ?_
  refine A.loopP (ι := Nat) (fun i => (⟨[(0, ckP l ch x lf), (3, .v (.pointer (some ⟨_, 0, none⟩))), (26, plsA p.to), (27, AI (p.to.length : Nat)), (28, AI (i : Nat))], []⟩, [.box _ (cellsR p)]))
    (fun i => i ≤ p.to.length ∧ ((p.to.zip p.e).drop i).all (fun te => assignB l te.1 te.2) = R) (fun i => p.to.length - i) 0 ⟨by omega, hR⟩ rfl fun i hi ih => ?_
  (repeat refine A.s rfl ?_)
  refine A.cond rfl (fun hc => ?_) (fun hc => ?_)
  · simp at hc
    refine Exists.elim (at_exN (l := p.to) (i := i) (by omega)) fun t ht => ?_
    refine Exists.elim (at_exN (l := p.e) (i := i) (by omega)) fun e hee => ?_
    have hwt := hw.to t (List.mem_of_getElem? ht)
    have hwe := hw.e e (List.mem_of_getElem? hee)
    have h1 := hi.2
    rw [drop_at (zip_both ht hee)] at h1
    by_cases hneg : t.v < 0
    · rw [assign_no (by rw [assignB, if_pos (.inl hneg)])] at h1
      (repeat refine A.s rfl ?_)
      refine A.x rfl (by omega) (map_at ht) rfl rfl ?_
      (repeat first|refine A.s rfl ?_|refine A.w rfl rfl ?_|refine A.b rfl fun bx=>?_)
      refine A.draw 47 [0, 1, 2, 3, 4, 5, 6, 7, 8, 9, 10, 11, 12, 13, 14, 15, 16, 17, 18, 19, 20, 21, 22, 23, 24, 25, 26, 27, 28, 29, 30, 31, 32, 33, 34, 35, 36, 37, 38, 39, 40, 41, 42, 43, 44, 45, 46] noPubs [(27, AB false)] (by kernel_rfl) (by kernel_rfl) ?_
      (repeat first|refine WA.s rfl ?_|refine WA.r rfl rfl ?_)
      refine WA.valE 36 rfl (x' := AB true) (ab_eq (by simpa using hneg)) ?_
      (repeat refine WA.s rfl ?_)
      refine WA.nil (l := []) rfl ?_
      (repeat refine A.s rfl ?_); refine A.ret1 (Λ' := []) rfl rfl rfl (List.nil_sublist _) ⟨?_, rfl⟩; rw [← h1]; exact .refl
    by_cases hout : (l.length : Int) ≤ t.v
    · rw [assign_no (by rw [assignB, if_pos (.inr hout)])] at h1
      (repeat refine A.s rfl ?_)
      refine A.x rfl (by omega) (map_at ht) rfl rfl ?_
      (repeat first|refine A.s rfl ?_|refine A.w rfl rfl ?_|refine A.b rfl fun bx=>?_)
      refine A.draw 47 [0, 1, 2, 3, 4, 5, 6, 7, 8, 9, 10, 11, 12, 13, 14, 15, 16, 17, 18, 19, 20, 21, 22, 23, 24, 25, 26, 27, 28, 29, 30, 31, 32, 33, 34, 35, 36, 37, 38, 39, 40, 41, 42, 43, 44, 45, 46] noPubs [(27, AB false)] (by kernel_rfl) (by kernel_rfl) ?_
      (repeat first|refine WA.s rfl ?_|refine WA.r rfl rfl ?_)
      refine WA.valE 36 rfl (x' := AB false) (ab_eq (by simp; omega)) ?_
      (repeat first|refine WA.s rfl ?_|refine WA.r rfl rfl ?_)
      refine WA.valE 47 rfl (x' := AB true) (ab_eq (by rw [hlen]; simpa using hout)) ?_
      (repeat refine WA.s rfl ?_)
      refine WA.nil (l := []) rfl ?_
      (repeat refine A.s rfl ?_); refine A.ret1 (Λ' := []) rfl rfl rfl (List.nil_sublist _) ⟨?_, rfl⟩; rw [← h1]; exact .refl
    refine Exists.elim (at_ex (l := l) (i := t.v) (by omega) (by omega)) fun y hy => ?_
    have hyk := hv y (List.mem_of_getElem? hy)
    have hv0 : (0 : Int) ≤ t.v := by omega
    have hab : assignB l t e = (placeB l t y.kind && fitV l e y.kind) := by rw [assignB, if_neg (by omega), hy]
    have hpl := place_p l ch x lf hl hv t hwt y.kind
    have hft := kfit_p l ch x lf hl hv e hwe y.kind hyk
    generalize placeB l t y.kind = b1 at hpl hab
    generalize fitV l e y.kind = b2 at hft hab
    cases b1 with
    | false =>
      rw [assign_no (by rw [hab]; rfl)] at h1
      (repeat refine A.s rfl ?_)
      refine A.x rfl (by omega) (map_at ht) rfl rfl ?_
      (repeat first|refine A.s rfl ?_|refine A.w rfl rfl ?_|refine A.b rfl fun bx=>?_)
      refine A.draw 47 [0, 1, 2, 3, 4, 5, 6, 7, 8, 9, 10, 11, 12, 13, 14, 15, 16, 17, 18, 19, 20, 21, 22, 23, 24, 25, 26, 27, 28, 29, 30, 31, 32, 33, 34, 35, 36, 37, 38, 39, 40, 41, 42, 43, 44, 45, 46] noPubs [(27, AB false)] (by kernel_rfl) (by kernel_rfl) ?_
      (repeat first|refine WA.s rfl ?_|refine WA.r rfl rfl ?_)
      refine WA.valE 36 rfl (x' := AB false) (ab_eq (by simp; omega)) ?_
      (repeat first|refine WA.s rfl ?_|refine WA.r rfl rfl ?_)
      refine WA.valE 47 rfl (x' := AB false) (ab_eq (by rw [hlen]; simp; omega)) ?_
      (repeat first|refine WA.s rfl ?_|refine WA.r rfl rfl ?_)
      refine WA.x rfl hv0 (map_at hy) rfl rfl ?_
      (repeat refine WA.s rfl ?_)
      refine WA.c rfl rfl hpl (.sub .refl) ?_
      (repeat refine WA.s rfl ?_)
      refine WA.nil (l := []) rfl ?_
      (repeat refine A.s rfl ?_); refine A.ret1 (Λ' := []) rfl rfl rfl (List.nil_sublist _) ⟨?_, rfl⟩; rw [← h1]; exact .refl
    | true =>
      (repeat refine A.s rfl ?_)
      refine A.x rfl (by omega) (map_at ht) rfl rfl ?_
      (repeat first|refine A.s rfl ?_|refine A.w rfl rfl ?_|refine A.b rfl fun bx=>?_)
      refine A.draw 47 [0, 1, 2, 3, 4, 5, 6, 7, 8, 9, 10, 11, 12, 13, 14, 15, 16, 17, 18, 19, 20, 21, 22, 23, 24, 25, 26, 27, 28, 29, 30, 31, 32, 33, 34, 35, 36, 37, 38, 39, 40, 41, 42, 43, 44, 45, 46] noPubs [(27, AB true)] (by kernel_rfl) (by kernel_rfl) ?_
      (repeat first|refine WA.s rfl ?_|refine WA.r rfl rfl ?_)
      refine WA.valE 36 rfl (x' := AB false) (ab_eq (by simp; omega)) ?_
      (repeat first|refine WA.s rfl ?_|refine WA.r rfl rfl ?_)
      refine WA.valE 47 rfl (x' := AB false) (ab_eq (by rw [hlen]; simp; omega)) ?_
      (repeat first|refine WA.s rfl ?_|refine WA.r rfl rfl ?_)
      refine WA.x rfl hv0 (map_at hy) rfl rfl ?_
      (repeat refine WA.s rfl ?_)
      refine WA.c rfl rfl hpl (.sub .refl) ?_
      (repeat first|refine WA.s rfl ?_|refine WA.r rfl rfl ?_)
      refine WA.x rfl (by omega) (encKl_at hee) (encK_eq e) rfl ?_
      (repeat first|refine WA.s rfl ?_|refine WA.r rfl rfl ?_)
      refine WA.x rfl hv0 (map_at hy) rfl rfl ?_
      (repeat refine WA.s rfl ?_)
      refine WA.nil (l := []) rfl ?_
      skip
      refine A.c rfl hft .refl ?_
      (repeat refine A.s rfl ?_)
      refine A.valE 82 rfl (x' := AB (!b2)) (ab_eq (by cases b2 <;> rfl)) ?_
      refine A.cond rfl (fun hc => ?_) (fun hc => ?_)
      · have hf : b2 = false := by simpa using hc
        rw [assign_no (by rw [hab, hf, Bool.and_false])] at h1
        (repeat refine A.s rfl ?_); refine A.ret1 (Λ' := []) rfl rfl rfl (List.nil_sublist _) ⟨?_, rfl⟩; rw [← h1]; exact .refl
      · have hf : b2 = true := by simpa using hc
        rw [List.all_cons] at h1
        have hat : assignB l t e = true := by rw [hab, hf]; rfl
        simp only [hat, Bool.true_and] at h1
        (repeat refine A.s rfl ?_)
        refine A.valE 28 rfl (x' := AI ((i + 1 : Nat) : Int)) (inc_eq i (by omega)) ?_
        refine A.less (Λ' := [.box _ (cellsR p)]) (by repeat (first | exact List.Sublist.refl _ | apply List.Sublist.cons_cons | apply List.Sublist.cons)) ?_
        refine A.sub (by repeat (first | exact trivial | refine ⟨⟨_, rfl, .refl⟩, ?_⟩)) (ih (i + 1) ⟨by omega, h1⟩ (by omega))
  · simp at hc
    have hil : i = p.to.length := by omega
    have h1 := hi.2
    rw [List.drop_eq_nil_of_le (by rw [zip_len hle]; omega), List.all_nil] at h1
    (repeat refine A.s rfl ?_); refine A.ret1 (Λ' := []) rfl rfl rfl (List.nil_sublist _) ⟨?_, rfl⟩; rw [← h1]; exact .refl
theorem assign16_p (l : List KV) (ch : List Int) (hl : l.length ≤ 281474976710656) (hv : VarsOk l) (p : PR) (hw : WfR p) (hk : p.kind = 4) : IsCheck l ch 41 p := fun x lf => by
  have hs := shape_p p false false 1 8 1 8 0 0 0 0
  have he : kindB l ch.length p = (shapeR p false false 1 8 1 8 0 0 0 0 && (p.to.length == p.e.length) && (p.to.zip p.e).all fun te => assignB l te.1 te.2) := by simp [kindB, hk]
  rw [he]
  cases hb : shapeR p false false 1 8 1 8 0 0 0 0 with
  | false => rw [hb] at hs; rw [Bool.false_and, Bool.false_and]; exact assign_a l ch p x lf hs
  | true =>
  rw [hb] at hs
  by_cases hle : p.to.length = p.e.length
  · have e0 : (p.to.length == p.e.length) = true := by simpa using hle
    rw [e0, Bool.true_and, Bool.true_and]
    have hto8 : p.to.length ≤ 8 := by
      simp only [shapeR, inB, Bool.and_eq_true, decide_eq_true_eq] at hb; omega
    exact assign_c l ch hl hv p hw x lf hs hle hto8 _ rfl
  · have e0 : (p.to.length == p.e.length) = false := by simpa using hle
    rw [e0, Bool.true_and, Bool.false_and]
    exact assign_b l ch p x lf hs hle
end Go.Proofs.YtgmeahcclogfmaaDoor
/-!
  Layer 16: the check of a kind, by the program.
-/
namespace Go.Proofs.YtgmeahcclogfmaaDoor
open Go Go.Tp
set_option linter.unusedVariables false
set_option linter.unusedSimpArgs false
set_option maxRecDepth 100000
set_option maxHeartbeats 4000000
def checkF (k : Int) : FuncId := if k = 1 ∨ k = 2 then 39 else if k = 3 then 40 else if k = 4 then 41 else if k = 5 then 42 else if k = 6 then 43
  else if k = 7 then 44 else if k = 8 then 45 else if k = 9 then 46 else if k = 10 then 47 else if k = 11 then 48 else if k = 13 then 50 else 49
theorem kinds15 {k : Int} (h : 1 ≤ k ∧ k ≤ 15) : k = 1 ∨ k = 2 ∨ k = 3 ∨ k = 4 ∨ k = 5 ∨ k = 6 ∨ k = 7 ∨ k = 8 ∨ k = 9 ∨ k = 10 ∨ k = 11 ∨ k = 12 ∨ k = 13 ∨ k = 14 ∨ k = 15 := by omega
theorem check_some (b : Nat) (k : Int) (h : 1 ≤ k ∧ k ≤ 15) : Pure Tryd.prog gs0 35 [ptrA b, AU8 k] (.fn (checkF k) [ptrA b] []) := by
  rcases kinds15 h with rfl | rfl | rfl | rfl | rfl | rfl | rfl | rfl | rfl | rfl | rfl | rfl | rfl | rfl | rfl
  all_goals refine Pure.of (S := tt) (fn := Tryd.f35) (n := 39) tt_ok Tryd.func35 rfl rfl rfl rfl fun w0 h0 F hgs => ?_
  all_goals (repeat refine A.s rfl ?_)
  all_goals refine A.makeMap rfl rfl rfl rfl fun bm => ?_
  all_goals (repeat first|first|refine A.s rfl ?_|refine A.r rfl rfl ?_|refine A.w rfl rfl ?_|refine A.p rfl ?_|refine A.b rfl fun bx=>?_|refine A.t rfl fun bl=>?_|refine A.insert rfl rfl rfl rfl rfl rfl rfl rfl rfl rfl rfl ?_)
  all_goals refine A.lookup rfl rfl rfl rfl rfl rfl rfl rfl rfl rfl rfl rfl ?_
  all_goals ((repeat refine A.s rfl ?_); refine A.ret1 (Λ' := []) rfl rfl rfl (List.nil_sublist _) ⟨?_, rfl⟩; exact .refl)
theorem posK_not {k : Int} (h : ¬ (1 ≤ k ∧ k ≤ 15)) : posK .u8 k [.int .u8 1, .int .u8 2, .int .u8 3, .int .u8 4, .int .u8 5, .int .u8 6, .int .u8 7, .int .u8 8, .int .u8 9, .int .u8 10, .int .u8 11, .int .u8 12, .int .u8 13, .int .u8 14, .int .u8 15] = some none := by
  have e : ∀ m : Int, 1 ≤ m → m ≤ 15 → (k == m) = false := fun m h1 h2 => by
    rw [beq_eq_false_iff_ne]; rintro rfl; exact h ⟨h1, h2⟩
  simp only [posK, decide_true, e 1 (by decide) (by decide), e 2 (by decide) (by decide), e 3 (by decide) (by decide), e 4 (by decide) (by decide), e 5 (by decide) (by decide), e 6 (by decide) (by decide), e 7 (by decide) (by decide), e 8 (by decide) (by decide),
    e 9 (by decide) (by decide), e 10 (by decide) (by decide), e 11 (by decide) (by decide), e 12 (by decide) (by decide), e 13 (by decide) (by decide), e 14 (by decide) (by decide), e 15 (by decide) (by decide)]
theorem check_none (b : Nat) (k : Int) (h : ¬ (1 ≤ k ∧ k ≤ 15)) : Pure Tryd.prog gs0 35 [ptrA b, AU8 k] (.v .nilFunc) := by
  refine Pure.of (S := tt) (fn := Tryd.f35) (n := 39) tt_ok Tryd.func35 rfl rfl rfl rfl fun w0 h0 F hgs => ?_
  (repeat refine A.s rfl ?_)
  refine A.makeMap rfl rfl rfl rfl fun bm => ?_
  (repeat first|first|refine A.s rfl ?_|refine A.r rfl rfl ?_|refine A.w rfl rfl ?_|refine A.p rfl ?_|refine A.b rfl fun bx=>?_|refine A.t rfl fun bl=>?_|refine A.insert rfl rfl rfl rfl rfl rfl rfl rfl rfl rfl rfl ?_)
  refine A.lookupNil (v := .nilFunc) rfl rfl rfl rfl rfl rfl rfl rfl (by kernel_rfl) rfl (posK_not h) rfl rfl ?_
  (repeat refine A.s rfl ?_); refine A.ret1 (Λ' := []) rfl rfl rfl (List.nil_sublist _) ⟨?_, rfl⟩; exact .refl
end Go.Proofs.YtgmeahcclogfmaaDoor
/-!
  Layer 16: which processes are right, with all that is inside them.
-/
namespace Go.Proofs.YtgmeahcclogfmaaDoor
open Go Go.Tp
set_option linter.unusedVariables false
set_option linter.unusedSimpArgs false
set_option maxRecDepth 100000
set_option maxHeartbeats 4000000
section
variable (l : List KV) (n : Nat)
mutual
/-- right, inside the first branch of a PRI PAR or not -/
def okR (high : Bool) : PR → Bool
  | ⟨k, c, v, i, to, e, gs, b⟩ => kindB l n ⟨k, c, v, i, to, e, gs, b⟩ && !(high && k == 11) && okL high (k == 11) b && okGs high gs
def okL (high first : Bool) : List PR → Bool
  | [] => true
  | p :: r => okR (high || first) p && okL high false r
def okG (high : Bool) : GD → Bool
  | ⟨_, _, _, _, _, _, b⟩ => okL high false b
def okGs (high : Bool) : List GD → Bool
  | [] => true
  | g :: r => okG high g && okGs high r
end
end
mutual
def szR : PR → Nat
  | ⟨_, _, _, _, _, _, gs, b⟩ => 1 + szL b + szGs gs
def szL : List PR → Nat
  | [] => 0
  | p :: r => szR p + szL r
def szG : GD → Nat
  | ⟨_, _, _, _, _, _, b⟩ => szL b
def szGs : List GD → Nat
  | [] => 0
  | g :: r => szG g + szGs r
end
mutual
def htR : PR → Nat
  | ⟨_, _, _, _, _, _, gs, b⟩ => 1 + max (htL b) (htGs gs)
def htL : List PR → Nat
  | [] => 0
  | p :: r => max (htR p) (htL r)
def htG : GD → Nat
  | ⟨_, _, _, _, _, _, b⟩ => htL b
def htGs : List GD → Nat
  | [] => 0
  | g :: r => max (htG g) (htGs r)
end
theorem okR_eq (l : List KV) (n : Nat) (high : Bool) (p : PR) : okR l n high p = (kindB l n p && !(high && p.kind == 11) && okL l n high (p.kind == 11) p.l && okGs l n high p.gs) := by obtain ⟨k, c, v, i, to, e, gs, b⟩ := p; rw [okR]
theorem szR_eq (p : PR) : szR p = 1 + szL p.l + szGs p.gs := by obtain ⟨k, c, v, i, to, e, gs, b⟩ := p; rw [szR]
theorem htR_eq (p : PR) : htR p = 1 + max (htL p.l) (htGs p.gs) := by obtain ⟨k, c, v, i, to, e, gs, b⟩ := p; rw [htR]
theorem okG_eq (l : List KV) (n : Nat) (high : Bool) (g : GD) : okG l n high g = okL l n high false g.body := by obtain ⟨k, e, c, i, to, t, b⟩ := g; rw [okG]
theorem szG_eq (g : GD) : szG g = szL g.body := by obtain ⟨k, e, c, i, to, t, b⟩ := g; rw [szG]
theorem htG_eq (g : GD) : htG g = htL g.body := by obtain ⟨k, e, c, i, to, t, b⟩ := g; rw [htG]
theorem szR_pos (p : PR) : 1 ≤ szR p := by rw [szR_eq]; omega
theorem htR_pos (p : PR) : 1 ≤ htR p := by rw [htR_eq]; omega
theorem szL_append (a b : List PR) : szL (a ++ b) = szL a + szL b := by
  induction a with
  | nil => simp [szL]
  | cons x r ih => rw [List.cons_append, szL, szL, ih]; omega
theorem htL_append (a b : List PR) : htL (a ++ b) = max (htL a) (htL b) := by
  induction a with
  | nil => simp [htL]
  | cons x r ih => rw [List.cons_append, htL, htL, ih]; omega
theorem szGs_append (a b : List GD) : szGs (a ++ b) = szGs a + szGs b := by
  induction a with
  | nil => simp [szGs]
  | cons x r ih => rw [List.cons_append, szGs, szGs, ih]; omega
theorem htGs_append (a b : List GD) : htGs (a ++ b) = max (htGs a) (htGs b) := by
  induction a with
  | nil => simp [htGs]
  | cons x r ih => rw [List.cons_append, htGs, htGs, ih]; omega
section
variable {l : List KV} {n : Nat} {high : Bool}
theorem okL_append {first : Bool} {a b : List PR} : okL l n high first (a ++ b) = (okL l n high first a && okL l n high (first && a.isEmpty) b) := by
  induction a generalizing first with
  | nil => simp [okL]
  | cons x r ih => rw [List.cons_append, okL, okL, ih]; simp [Bool.and_assoc]
theorem okGs_append {a b : List GD} : okGs l n high (a ++ b) = (okGs l n high a && okGs l n high b) := by
  induction a with
  | nil => simp [okGs]
  | cons x r ih => rw [List.cons_append, okGs, okGs, ih, Bool.and_assoc]
def fitsR (l : List KV) (n : Nat) (high : Bool) (p : PR) (room deep : Int) : Prop := okR l n high p = true ∧ (szR p : Int) ≤ room ∧ (htR p : Int) ≤ deep
instance (l : List KV) (n : Nat) (high : Bool) (p : PR) (room deep : Int) : Decidable (fitsR l n high p room deep) := by unfold fitsR; infer_instance
def fitsPs (l : List KV) (n : Nat) (high first : Bool) (ps : List PR) (room deep : Int) : Prop := okL l n high first ps = true ∧ (szL ps : Int) ≤ room ∧ (htL ps : Int) ≤ deep
def fitsGs (l : List KV) (n : Nat) (high : Bool) (gs : List GD) (room deep : Int) : Prop := okGs l n high gs = true ∧ (szGs gs : Int) ≤ room ∧ (htGs gs : Int) ≤ deep
theorem fitsR_l {p : PR} {room deep : Int} (hr : 1 ≤ room) (hd : 1 ≤ deep) (hk : kindB l n p = true) (hh : (high && p.kind == 11) = false) :
    fitsR l n high p room deep ↔ fitsPs l n high (p.kind == 11) p.l (room - 1) (deep - 1) ∧ fitsGs l n high p.gs (room - 1 - szL p.l) (deep - 1) := by
  unfold fitsR fitsPs fitsGs
  rw [okR_eq, hk, hh, szR_eq, htR_eq, Bool.not_false, Bool.true_and, Bool.true_and, Bool.and_eq_true]
  constructor
  · rintro ⟨⟨h1, h2⟩, h3, h4⟩; exact ⟨⟨h1, by omega, by omega⟩, h2, by omega, by omega⟩
  · rintro ⟨⟨h1, h3, h4⟩, h2, h5, h6⟩; exact ⟨⟨h1, h2⟩, by omega, by omega⟩
theorem fitsR_no {p : PR} {r d : Int} (h : r < 1 ∨ d < 1 ∨ kindB l n p = false ∨ (high && p.kind == 11) = true) : ¬ fitsR l n high p r d := by
  rintro ⟨h1, h2, h3⟩
  have := szR_pos p
  have := htR_pos p
  rw [okR_eq] at h1
  simp only [Bool.and_eq_true, Bool.not_eq_true'] at h1
  rcases h with h | h | h | h
  · omega
  · omega
  · rw [h1.1.1.1] at h; cases h
  · rw [h1.1.1.2] at h; cases h
theorem fitsPs_snoc {first : Bool} {a : List PR} {x : PR} {room deep : Int} (ha : fitsPs l n high first a room deep) : fitsPs l n high first (a ++ [x]) room deep ↔ fitsR l n (high || (first && a.isEmpty)) x (room - szL a) deep := by
  obtain ⟨h1, h2, h3⟩ := ha
  unfold fitsPs fitsR
  rw [okL_append, szL_append, htL_append, h1, Bool.true_and]
  simp only [okL, szL, htL, Bool.and_true]
  constructor
  · rintro ⟨g1, g2, g3⟩; exact ⟨g1, by omega, by omega⟩
  · rintro ⟨g1, g2, g3⟩; exact ⟨g1, by omega, by omega⟩
theorem fitsPs_take {first : Bool} {ps : List PR} {room deep : Int} (h : fitsPs l n high first ps room deep) (i : Nat) : fitsPs l n high first (ps.take i) room deep := by
  obtain ⟨h1, h2, h3⟩ := h
  rw [← List.take_append_drop i ps] at h1 h2 h3
  rw [okL_append, Bool.and_eq_true] at h1
  rw [szL_append] at h2
  rw [htL_append] at h3
  exact ⟨h1.1, by omega, by omega⟩
theorem fitsGs_snoc {a : List GD} {x : GD} {y : PR} (hx : x.body = [y]) {room deep : Int} (ha : fitsGs l n high a room deep) : fitsGs l n high (a ++ [x]) room deep ↔ fitsR l n high y (room - szGs a) deep := by
  obtain ⟨h1, h2, h3⟩ := ha
  have e1 : okGs l n high [x] = okR l n high y := by rw [okGs, okGs, Bool.and_true, okG_eq, hx, okL, okL, Bool.and_true, Bool.or_false]
  have e2 : szGs [x] = szR y := by rw [szGs, szGs, szG_eq, hx, szL, szL]; omega
  have e3 : htGs [x] = htR y := by rw [htGs, htGs, htG_eq, hx, htL, htL]; omega
  unfold fitsGs fitsR
  rw [okGs_append, szGs_append, htGs_append, h1, Bool.true_and, e1, e2, e3]
  constructor
  · rintro ⟨g1, g2, g3⟩; exact ⟨g1, by omega, by omega⟩
  · rintro ⟨g1, g2, g3⟩; exact ⟨g1, by omega, by omega⟩
theorem fitsGs_take {gs : List GD} {room deep : Int} (h : fitsGs l n high gs room deep) (i : Nat) : fitsGs l n high (gs.take i) room deep := by
  obtain ⟨h1, h2, h3⟩ := h
  rw [← List.take_append_drop i gs] at h1 h2 h3
  rw [okGs_append, Bool.and_eq_true] at h1
  rw [szGs_append] at h2
  rw [htGs_append] at h3
  exact ⟨h1.1, by omega, by omega⟩
theorem szL_le : ∀ {ps : List PR} {x : PR}, x ∈ ps → szR x ≤ szL ps
  | [], _, h => by cases h
  | y :: r, x, h => by
    rw [szL]
    rcases List.mem_cons.1 h with rfl | h
    · omega
    · have := szL_le h; omega
theorem szGs_le : ∀ {gs : List GD} {x : GD}, x ∈ gs → szG x ≤ szGs gs
  | [], _, h => by cases h
  | y :: r, x, h => by
    rw [szGs]
    rcases List.mem_cons.1 h with rfl | h
    · omega
    · have := szGs_le h; omega
theorem inB_0 {m : Nat} (h : inB m 0 0 = true) : m = 0 := by simp only [inB, Bool.and_eq_true, decide_eq_true_eq] at h; omega
theorem kind_bodies {p : PR} (h : kindB l n p = true) : 1 ≤ p.kind ∧ p.kind ≤ 15 ∧ ∀ g, g ∈ p.gs → ∃ y, g.body = [y] := by
  have h0 : ∀ {ch v : Bool} {t1 t2 e1 e2 l1 l2 : Int}, shapeR p ch v t1 t2 e1 e2 0 0 l1 l2 = true → ∀ g, g ∈ p.gs → ∃ y, g.body = [y] := fun hs g hg => by
    simp only [shapeR, Bool.and_eq_true] at hs
    have := inB_0 hs.1.2
    rw [List.length_eq_zero_iff] at this
    rw [this] at hg; cases hg
  unfold kindB at h
  by_cases k0 : p.kind = 1 ∨ p.kind = 2
  · rw [if_pos k0] at h; exact ⟨by omega, by omega, h0 h⟩
  rw [if_neg k0] at h
  by_cases k1 : p.kind = 3
  · rw [if_pos k1, Bool.and_eq_true, Bool.and_eq_true] at h; exact ⟨by omega, by omega, h0 h.1.1⟩
  rw [if_neg k1] at h
  by_cases k2 : p.kind = 4
  · rw [if_pos k2, Bool.and_eq_true, Bool.and_eq_true] at h; exact ⟨by omega, by omega, h0 h.1.1⟩
  rw [if_neg k2] at h
  by_cases k3 : p.kind = 5
  · rw [if_pos k3, Bool.and_eq_true] at h; exact ⟨by omega, by omega, h0 h.1⟩
  rw [if_neg k3] at h
  by_cases k4 : p.kind = 6
  · rw [if_pos k4, Bool.and_eq_true, Bool.and_eq_true] at h; exact ⟨by omega, by omega, h0 h.1.1⟩
  rw [if_neg k4] at h
  by_cases k5 : p.kind = 7
  · rw [if_pos k5, Bool.and_eq_true] at h; exact ⟨by omega, by omega, h0 h.1⟩
  rw [if_neg k5] at h
  by_cases k6 : p.kind = 8
  · rw [if_pos k6, Bool.and_eq_true] at h; exact ⟨by omega, by omega, h0 h.1⟩
  rw [if_neg k6] at h
  by_cases k7 : p.kind = 9
  · rw [if_pos k7] at h; exact ⟨by omega, by omega, h0 h⟩
  rw [if_neg k7] at h
  by_cases k8 : p.kind = 10
  · rw [if_pos k8] at h; exact ⟨by omega, by omega, h0 h⟩
  rw [if_neg k8] at h
  by_cases k9 : p.kind = 11
  · rw [if_pos k9] at h; exact ⟨by omega, by omega, h0 h⟩
  rw [if_neg k9] at h
  by_cases k10 : p.kind = 12 ∨ p.kind = 14 ∨ p.kind = 15
  · rw [if_pos k10, Bool.and_eq_true, List.all_eq_true] at h
    refine ⟨by omega, by omega, fun g hg => ?_⟩
    have := h.2 g hg
    simp only [guardB, Bool.and_eq_true, beq_iff_eq] at this
    have h1 := this.1.1.1
    match hb : g.body, h1 with
    | [y], _ => exact ⟨y, rfl⟩
  rw [if_neg k10] at h
  by_cases k11 : p.kind = 13
  · rw [if_pos k11, Bool.and_eq_true] at h; exact ⟨by omega, by omega, h0 h.1⟩
  rw [if_neg k11] at h
  cases h
end
end Go.Proofs.YtgmeahcclogfmaaDoor
/-!
  Layer 16: process and May, by the program.
-/
namespace Go.Proofs.YtgmeahcclogfmaaDoor
open Go Go.Tp
set_option linter.unusedVariables false
set_option linter.unusedSimpArgs false
set_option maxRecDepth 100000
set_option maxHeartbeats 4000000
section
variable (l : List KV) (ch : List Int) (hl : l.length ≤ 281474976710656) (hv : VarsOk l)
def Lent (f : FuncId) (p : PR) : Prop := ∀ (b : Nat) (x : Nat → AV) (lf : Int), Fun Tryd.prog gs0 f [ptrA b, cellsR p] [.box b (ckA l ch x lf)] fun z Λ' => z = AB (kindB l ch.length p) ∧ Λ' = [.box b (ckA l ch x lf)]
include hl hv
theorem kind_lent (p : PR) (hw : WfR p) (hk : 1 ≤ p.kind ∧ p.kind ≤ 15) : Lent l ch (checkF p.kind) p := fun b x lf => by
  by_cases h1 : p.kind = 1 ∨ p.kind = 2
  · have h := nothing_p l ch p h1
    rw [checkF, if_pos h1]; exact Pure.lend Tryd.func39 rfl rfl (h x lf) rfl (LtL.cons (Lt.box (List.mem_singleton.2 rfl) rfl) (LtL.cons (Lt.sub .refl) LtL.nil))
  rw [checkF, if_neg h1]
  by_cases h3 : p.kind = 3
  · have h := clear_p l ch p h3
    rw [if_pos h3]; exact Pure.lend Tryd.func40 rfl rfl (h x lf) rfl (LtL.cons (Lt.box (List.mem_singleton.2 rfl) rfl) (LtL.cons (Lt.sub .refl) LtL.nil))
  rw [if_neg h3]
  by_cases h4 : p.kind = 4
  · have h := assign16_p l ch hl hv p hw h4
    rw [if_pos h4]; exact Pure.lend Tryd.func41 rfl rfl (h x lf) rfl (LtL.cons (Lt.box (List.mem_singleton.2 rfl) rfl) (LtL.cons (Lt.sub .refl) LtL.nil))
  rw [if_neg h4]
  by_cases h5 : p.kind = 5
  · have h := in16_p l ch hl hv p hw h5
    rw [if_pos h5]; exact Pure.lend Tryd.func42 rfl rfl (h x lf) rfl (LtL.cons (Lt.box (List.mem_singleton.2 rfl) rfl) (LtL.cons (Lt.sub .refl) LtL.nil))
  rw [if_neg h5]
  by_cases h6 : p.kind = 6
  · have h := out16_p l ch hl hv p hw h6
    rw [if_pos h6]; exact Pure.lend Tryd.func43 rfl rfl (h x lf) rfl (LtL.cons (Lt.box (List.mem_singleton.2 rfl) rfl) (LtL.cons (Lt.sub .refl) LtL.nil))
  rw [if_neg h6]
  by_cases h7 : p.kind = 7
  · have h := time16_p l ch hl hv p hw h7
    rw [if_pos h7]; exact Pure.lend Tryd.func44 rfl rfl (h x lf) rfl (LtL.cons (Lt.box (List.mem_singleton.2 rfl) rfl) (LtL.cons (Lt.sub .refl) LtL.nil))
  rw [if_neg h7]
  by_cases h8 : p.kind = 8
  · have h := after16_p l ch hl hv p hw h8
    rw [if_pos h8]; exact Pure.lend Tryd.func45 rfl rfl (h x lf) rfl (LtL.cons (Lt.box (List.mem_singleton.2 rfl) rfl) (LtL.cons (Lt.sub .refl) LtL.nil))
  rw [if_neg h8]
  by_cases h9 : p.kind = 9
  · have h := seq_p l ch p h9
    rw [if_pos h9]; exact Pure.lend Tryd.func46 rfl rfl (h x lf) rfl (LtL.cons (Lt.box (List.mem_singleton.2 rfl) rfl) (LtL.cons (Lt.sub .refl) LtL.nil))
  rw [if_neg h9]
  by_cases h10 : p.kind = 10
  · have h := par_p l ch p h10
    rw [if_pos h10]; exact Pure.lend Tryd.func47 rfl rfl (h x lf) rfl (LtL.cons (Lt.box (List.mem_singleton.2 rfl) rfl) (LtL.cons (Lt.sub .refl) LtL.nil))
  rw [if_neg h10]
  by_cases h11 : p.kind = 11
  · have h := pri_p l ch p h11
    rw [if_pos h11]; exact Pure.lend Tryd.func48 rfl rfl (h x lf) rfl (LtL.cons (Lt.box (List.mem_singleton.2 rfl) rfl) (LtL.cons (Lt.sub .refl) LtL.nil))
  rw [if_neg h11]
  by_cases h13 : p.kind = 13
  · have h := loop16_p l ch hl hv p hw h13
    rw [if_pos h13]; exact Pure.lend Tryd.func50 rfl rfl (h x lf) rfl (LtL.cons (Lt.box (List.mem_singleton.2 rfl) rfl) (LtL.cons (Lt.sub .refl) LtL.nil))
  rw [if_neg h13]
  have h := choice16_p l ch hl hv p hw (by omega)
  exact Pure.lend Tryd.func49 rfl rfl (h x lf) rfl (LtL.cons (Lt.box (List.mem_singleton.2 rfl) rfl) (LtL.cons (Lt.sub .refl) LtL.nil))
end
abbrev procE (l : List KV) (ch : List Int) (x : Nat → AV) (b : Nat) (p : PR) (deep : Int) (high : Bool) (left : Int) : Prop :=
  FunE Tryd.prog gs0 27 [ptrA b, cellsR p, AI deep, AB high] [.box b (ckA l ch x left)] (fun _ : Int => AB (decide (fitsR l ch.length high p left (33 - deep)))) (fun i => [.box b (ckA l ch x i)]) (fun i => fitsR l ch.length high p left (33 - deep) → i = left - szR p)
theorem proc_a (l : List KV) (ch : List Int) (x : Nat → AV) (b : Nat) (p : PR) (deep : Int) (high : Bool) (left : Int) (h : left = 0 ∨ deep = 33) (r0 : 0 ≤ left) (r1 : left ≤ 2048) (f : AV) (hck : Pure Tryd.prog gs0 35 [ptrA b, AU8 p.kind] f) : procE l ch x b p deep high left := by
  have hw1 : IntKind.i64.wrap (left - 1) = left - 1 := wr64 _ (by omega)
  have hnf : ¬ fitsR l ch.length high p left (33 - deep) := fitsR_no (by omega)
  unfold procE FunE
  refine Fun.of (S := tt) (fn := Tryd.f27) (n := 95) tt_ok Tryd.func27 rfl rfl rfl rfl fun w0 h0 F hgs => ?_
  (repeat first|refine A.s rfl ?_|refine A.r rfl rfl ?_|refine A.w rfl rfl ?_|refine A.b rfl fun bx=>?_)
  refine A.c rfl hck .refl ?_
  (repeat first|refine A.s rfl ?_|refine A.r rfl rfl ?_)
  refine A.valE 30 rfl (x' := AB (decide (left = 0))) (ab_eq (by rw [hw1, Bool.eq_iff_iff]; simp; omega)) ?_
  by_cases hz : left = 0
  · refine A.valE 30 rfl (x' := AB true) (ab_eq (by simpa using hz)) ?_
    (repeat refine A.s rfl ?_)
    (refine A.ret1 (Λ' := [.box b _]) rfl rfl rfl (by repeat (first | exact List.Sublist.refl _ | apply List.Sublist.cons_cons | apply List.Sublist.cons)) ⟨_, Sb.eq (ab_eq ?_), rfl, ?_⟩; exact (decide_eq_false hnf).symm; exact fun h => absurd h hnf)
  · refine A.valE 30 rfl (x' := AB false) (ab_eq (by simpa using hz)) ?_
    (repeat refine A.s rfl ?_)
    refine A.valE 34 rfl (x' := AB true) (ab_eq (by simp; omega)) ?_
    (repeat refine A.s rfl ?_)
    (refine A.ret1 (Λ' := [.box b _]) rfl rfl rfl (by repeat (first | exact List.Sublist.refl _ | apply List.Sublist.cons_cons | apply List.Sublist.cons)) ⟨_, Sb.eq (ab_eq ?_), rfl, ?_⟩; exact (decide_eq_false hnf).symm; exact fun h => absurd h hnf)
theorem proc_b (l : List KV) (ch : List Int) (x : Nat → AV) (b : Nat) (p : PR) (deep : Int) (high : Bool) (left : Int) (r0 : 1 ≤ left) (r1 : left ≤ 2048) (d0 : 1 ≤ deep) (d1 : deep ≤ 32) (hck : Pure Tryd.prog gs0 35 [ptrA b, AU8 p.kind] (.v .nilFunc)) (hno : kindB l ch.length p = false) : procE l ch x b p deep high left := by
  have hw1 : IntKind.i64.wrap (left - 1) = left - 1 := wr64 _ (by omega)
  have hnf : ¬ fitsR l ch.length high p left (33 - deep) := fitsR_no (.inr (.inr (.inl hno)))
  unfold procE FunE
  refine Fun.of (S := tt) (fn := Tryd.f27) (n := 95) tt_ok Tryd.func27 rfl rfl rfl rfl fun w0 h0 F hgs => ?_
  (repeat first|refine A.s rfl ?_|refine A.r rfl rfl ?_|refine A.w rfl rfl ?_|refine A.b rfl fun bx=>?_)
  refine A.c rfl hck .refl ?_
  (repeat first|refine A.s rfl ?_|refine A.r rfl rfl ?_)
  refine A.valE 30 rfl (x' := AB false) (ab_eq (by rw [hw1]; simp; omega)) ?_
  (repeat refine A.s rfl ?_)
  refine A.valE 34 rfl (x' := AB false) (ab_eq (by simp; omega)) ?_
  (repeat refine A.s rfl ?_)
  (refine A.ret1 (Λ' := [.box b _]) rfl rfl rfl (by repeat (first | exact List.Sublist.refl _ | apply List.Sublist.cons_cons | apply List.Sublist.cons)) ⟨_, Sb.eq (ab_eq ?_), rfl, ?_⟩; exact (decide_eq_false hnf).symm; exact fun h => absurd h hnf)
theorem proc_c (l : List KV) (ch : List Int) (x : Nat → AV) (b : Nat) (p : PR) (deep : Int) (high : Bool) (left : Int) (r0 : 1 ≤ left) (r1 : left ≤ 2048) (d0 : 1 ≤ deep) (d1 : deep ≤ 32) (f : FuncId) (hck : Pure Tryd.prog gs0 35 [ptrA b, AU8 p.kind] (.fn f [ptrA b] [])) (hle : Lent l ch f p) (hno : kindB l ch.length p = false) : procE l ch x b p deep high left := by
  have hw1 : IntKind.i64.wrap (left - 1) = left - 1 := wr64 _ (by omega)
  have hnf : ¬ fitsR l ch.length high p left (33 - deep) := fitsR_no (.inr (.inr (.inl hno)))
  have hl1 := hle b x (IntKind.i64.wrap (left - 1))
  rw [hno] at hl1
  unfold procE FunE
  refine Fun.of (S := tt) (fn := Tryd.f27) (n := 95) tt_ok Tryd.func27 rfl rfl rfl rfl fun w0 h0 F hgs => ?_
  (repeat first|refine A.s rfl ?_|refine A.r rfl rfl ?_|refine A.w rfl rfl ?_|refine A.b rfl fun bx=>?_)
  refine A.c rfl hck .refl ?_
  (repeat first|refine A.s rfl ?_|refine A.r rfl rfl ?_)
  refine A.valE 30 rfl (x' := AB false) (ab_eq (by rw [hw1]; simp; omega)) ?_
  (repeat refine A.s rfl ?_)
  refine A.valE 34 rfl (x' := AB false) (ab_eq (by simp; omega)) ?_
  (repeat first|refine A.s rfl ?_|refine A.r rfl rfl ?_)
  refine A.d rfl hl1 .refl (List.Perm.swap _ _ _) ?_
  (repeat refine A.s rfl ?_)
  (refine A.ret1 (Λ' := [.box b _]) rfl rfl rfl (by repeat (first | exact List.Sublist.refl _ | apply List.Sublist.cons_cons | apply List.Sublist.cons)) ⟨_, Sb.eq (ab_eq ?_), rfl, ?_⟩; exact (decide_eq_false hnf).symm; exact fun h => absurd h hnf)
theorem proc_d (l : List KV) (ch : List Int) (x : Nat → AV) (b : Nat) (p : PR) (deep : Int) (left : Int) (r0 : 1 ≤ left) (r1 : left ≤ 2048) (d0 : 1 ≤ deep) (d1 : deep ≤ 32) (f : FuncId) (hck : Pure Tryd.prog gs0 35 [ptrA b, AU8 p.kind] (.fn f [ptrA b] [])) (hle : Lent l ch f p) (hyes : kindB l ch.length p = true) (hk : p.kind = 11) : procE l ch x b p deep true left := by
  have hw1 : IntKind.i64.wrap (left - 1) = left - 1 := wr64 _ (by omega)
  have hnf : ¬ fitsR l ch.length true p left (33 - deep) := fitsR_no (.inr (.inr (.inr (by simpa using hk))))
  have hl1 := hle b x (IntKind.i64.wrap (left - 1))
  rw [hyes] at hl1
  unfold procE FunE
  refine Fun.of (S := tt) (fn := Tryd.f27) (n := 95) tt_ok Tryd.func27 rfl rfl rfl rfl fun w0 h0 F hgs => ?_
  (repeat first|refine A.s rfl ?_|refine A.r rfl rfl ?_|refine A.w rfl rfl ?_|refine A.b rfl fun bx=>?_)
  refine A.c rfl hck .refl ?_
  (repeat first|refine A.s rfl ?_|refine A.r rfl rfl ?_)
  refine A.valE 30 rfl (x' := AB false) (ab_eq (by rw [hw1]; simp; omega)) ?_
  (repeat refine A.s rfl ?_)
  refine A.valE 34 rfl (x' := AB false) (ab_eq (by simp; omega)) ?_
  (repeat first|refine A.s rfl ?_|refine A.r rfl rfl ?_)
  refine A.d rfl hl1 .refl (List.Perm.swap _ _ _) ?_
  (repeat first|refine A.s rfl ?_|refine A.r rfl rfl ?_)
  refine A.valE 51 rfl (x' := AB true) (ab_eq (by simpa using hk)) ?_
  (repeat refine A.s rfl ?_)
  (refine A.ret1 (Λ' := [.box b _]) rfl rfl rfl (by repeat (first | exact List.Sublist.refl _ | apply List.Sublist.cons_cons | apply List.Sublist.cons)) ⟨_, Sb.eq (ab_eq ?_), rfl, ?_⟩; exact (decide_eq_false hnf).symm; exact fun h => absurd h hnf)
theorem take_empty {α : Type} {a : List α} {i : Nat} (h : i < a.length) : (a.take i).isEmpty = decide (i = 0) := by
  rw [Bool.eq_iff_iff, List.isEmpty_iff, List.take_eq_nil_iff]; simp
  rintro rfl; simp at h
theorem proc_e (l : List KV) (ch : List Int) (x : Nat → AV) (b : Nat) (p : PR) (hwf : wfR p) (deep : Int) (high : Bool) (left : Int) (r0 : 1 ≤ left) (r1 : left ≤ 2048) (d0 : 1 ≤ deep) (d1 : deep ≤ 32) (f : FuncId) (hck : Pure Tryd.prog gs0 35 [ptrA b, AU8 p.kind] (.fn f [ptrA b] [])) (hle : Lent l ch f p) (hyes : kindB l ch.length p = true) (hh : (high && p.kind == 11) = false)
    (ih0 : ∀ (y : PR) (hi : Bool) (lf : Int), wfR y → szR y < szR p → 0 ≤ lf → lf ≤ 2048 → procE l ch x b y (deep + 1) hi lf) : procE l ch x b p deep high left := by
  have hw1 : IntKind.i64.wrap (left - 1) = left - 1 := wr64 _ (by omega)
  have hw2 : IntKind.i64.wrap (deep + 1) = deep + 1 := wr64 _ (by omega)
  have hwa := wfR_all hwf
  have hl1 := hle b x (left - 1)
  rw [hyes] at hl1
  have hbod := (kind_bodies hyes).2.2
  have hfl := fitsR_l (high := high) (p := p) (room := left) (deep := 33 - deep) r0 (by omega) hyes hh
  rw [show 33 - deep - 1 = 33 - (deep + 1) by omega] at hfl
  have hse := szR_eq p
  have n1 : ((encRl p.l).length : Int) = p.l.length := by rw [encRl_len]
  have n2 : ((encGl p.gs).length : Int) = p.gs.length := by rw [encGl_len]
  unfold procE FunE
  refine Fun.of (S := tt) (fn := Tryd.f27) (n := 95) tt_ok Tryd.func27 rfl rfl rfl rfl fun w0 h0 F hgs => ?_
  (repeat first|refine A.s rfl ?_|refine A.r rfl rfl ?_|refine A.w rfl rfl ?_|refine A.b rfl fun bx=>?_)
  refine A.c rfl hck .refl ?_
  (repeat first|refine A.s rfl ?_|refine A.r rfl rfl ?_)
  refine A.valE 30 rfl (x' := AB false) (ab_eq (by rw [hw1]; simp; omega)) ?_
  (repeat refine A.s rfl ?_)
  refine A.valE 34 rfl (x' := AB false) (ab_eq (by simp; omega)) ?_
  (repeat first|refine A.s rfl ?_|refine A.r rfl rfl ?_)
  refine A.entsEq (Λ' := [.box _ (cellsR p), .box b (ckA l ch x (left - 1))]) (by rw [hw1]) ?_
  refine A.d rfl hl1 .refl (List.Perm.swap _ _ _) ?_
  (repeat first|refine A.s rfl ?_|refine A.step rfl ?_|refine A.v rfl rfl ?_)
  refine A.valE 51 rfl (x' := AB false) (ab_eq (by revert hh; cases high <;> simp)) ?_
  (repeat first|refine A.s rfl ?_|refine A.r rfl rfl ?_)
  refine A.valE 54 rfl (x' := AI (p.l.length : Nat)) (ai_eq n1) ?_
  refine A.keep [0, 2, 3, 5, 53, 54, 55] rfl ?_
  refine A.loopP (ι := Nat × Int) (fun q => (⟨[(0, ptrA b), (2, AI deep), (3, AB high), (5, ptrA _), (53, rsA p.l), (54, AI (p.l.length : Nat)), (55, AI (q.1 : Nat))], []⟩, [.box b (ckA l ch x q.2), .box _ (cellsR p)]))
    (fun q => q.1 ≤ p.l.length ∧ fitsPs l ch.length high (p.kind == 11) (p.l.take q.1) (left - 1) (33 - (deep + 1)) ∧ q.2 = left - 1 - (szL (p.l.take q.1) : Nat)) (fun q => p.l.length - q.1) (0, left - 1) ⟨Nat.zero_le _, ⟨by simp [okL], by simp [szL]; omega, by simp [htL]; omega⟩, by simp [szL]⟩ rfl fun q hi ih => ?_
  obtain ⟨i, lf⟩ := q
  obtain ⟨hi1, hi2, hi3⟩ := hi
  simp only at hi1 hi2 hi3
  have hsz2 := hi2.2.1
  (repeat refine A.s rfl ?_)
  refine A.cond rfl (fun hc => ?_) (fun hc => ?_)
  · simp at hc
    refine Exists.elim (at_exN (l := p.l) (i := i) (by omega)) fun y hy => ?_
    have hym := List.mem_of_getElem? hy
    have htk : p.l.take (i + 1) = p.l.take i ++ [y] := by rw [List.take_add_one, hy]; rfl
    have hsn := fitsPs_snoc (x := y) hi2
    rw [← htk, ← hi3, take_empty (by omega)] at hsn
    have ihy := ih0 y (high || ((p.kind == 11) && decide (i = 0))) lf ((wfR_all (by exact hwf)).l y hym) (by have := szL_le hym; omega) (by omega) (by omega)
    unfold procE at ihy
    have e0 : (((i : Nat) : Int) == 0) = decide (i = 0) := by rw [Bool.eq_iff_iff]; simp
    (repeat refine A.s rfl ?_)
    refine A.x rfl (by show (0 : Int) ≤ (i : Nat); omega) (encRl_at hy) (encR_eq y) rfl ?_
    (repeat first|refine A.s rfl ?_|refine A.r rfl rfl ?_|refine A.w rfl rfl ?_|refine A.b rfl fun bx=>?_|refine A.step rfl ?_|refine A.v rfl rfl ?_)
    refine A.valE 63 rfl (x' := AI (deep + 1)) (ai_eq hw2) ?_
    refine A.valE 73 rfl (x' := AB (high || ((p.kind == 11) && decide (i = 0)))) (ab_eq (by rw [e0]; clear ih ihy hsn; generalize (p.kind == 11) = b11; cases high <;> cases b11 <;> simp)) ?_
    refine A.e rfl ihy .refl (List.Perm.swap _ _ _) fun lf2 hlf2 => ?_
    by_cases hfx : fitsR l ch.length (high || ((p.kind == 11) && decide (i = 0))) y lf (33 - (deep + 1))
    · refine A.valE 74 rfl (x' := AB true) (ab_eq (decide_eq_true hfx)) ?_
      (repeat refine A.s rfl ?_)
      refine A.less (Λ' := [.box b (ckA l ch x lf2), .box _ (cellsR p)]) (by repeat (first | exact List.Sublist.refl _ | apply List.Sublist.cons_cons | apply List.Sublist.cons)) ?_
      refine A.valE 55 rfl (x' := AI ((i + 1 : Nat) : Int)) (inc_eq i (by have := hwa.ll; omega)) ?_
      refine A.sub (by repeat (first | exact trivial | refine ⟨⟨_, rfl, .refl⟩, ?_⟩)) (ih (i + 1, lf2) ⟨by show i + 1 ≤ _; omega, hsn.2 hfx, ?_⟩ (by show _ - (i + 1) < _ - i; omega))
      show lf2 = left - 1 - (szL (p.l.take (i + 1)) : Nat)
      rw [hlf2 hfx, htk, szL_append, hi3]; simp [szL]; omega
    · have hnf : ¬ fitsR l ch.length high p left (33 - deep) := fun hf => hfx (hsn.1 (fitsPs_take (hfl.1 hf).1 (i + 1)))
      refine A.valE 74 rfl (x' := AB false) (ab_eq (decide_eq_false hfx)) ?_
      (repeat refine A.s rfl ?_)
      (refine A.ret1 (Λ' := [.box b _]) rfl rfl rfl (by repeat (first | exact List.Sublist.refl _ | apply List.Sublist.cons_cons | apply List.Sublist.cons)) ⟨_, Sb.eq (ab_eq ?_), rfl, ?_⟩; exact (decide_eq_false hnf).symm; exact fun h => absurd h hnf)
  simp at hc
  have hil : i = p.l.length := by omega
  rw [hil, List.take_length] at hi2 hi3
  have hszl := hi2.2.1
  (repeat first|refine A.s rfl ?_|refine A.r rfl rfl ?_)
  refine A.valE 79 rfl (x' := AI (p.gs.length : Nat)) (ai_eq n2) ?_
  refine A.keep [0, 2, 3, 5, 78, 79, 80] rfl ?_
  refine A.loopP (ι := Nat × Int) (fun q => (⟨[(0, ptrA b), (2, AI deep), (3, AB high), (5, ptrA _), (78, gsA p.gs), (79, AI (p.gs.length : Nat)), (80, AI (q.1 : Nat))], []⟩, [.box b (ckA l ch x q.2), .box _ (cellsR p)]))
    (fun q => q.1 ≤ p.gs.length ∧ fitsGs l ch.length high (p.gs.take q.1) (left - 1 - (szL p.l : Nat)) (33 - (deep + 1)) ∧ q.2 = left - 1 - (szL p.l : Nat) - (szGs (p.gs.take q.1) : Nat)) (fun q => p.gs.length - q.1) (0, lf) ⟨Nat.zero_le _, ⟨by simp [okGs], by simp [szGs]; omega, by simp [htGs]; omega⟩, by simp [szGs]; omega⟩ rfl fun q hj jh => ?_
  obtain ⟨j, lg⟩ := q
  obtain ⟨hj1, hj2, hj3⟩ := hj
  simp only at hj1 hj2 hj3
  have hsz3 := hj2.2.1
  (repeat refine A.s rfl ?_)
  refine A.cond rfl (fun hc => ?_) (fun hc => ?_)
  · simp at hc
    refine Exists.elim (at_exN (l := p.gs) (i := j) (by omega)) fun g hg => ?_
    have hgm := List.mem_of_getElem? hg
    refine Exists.elim (hbod g hgm) fun y hy => ?_
    have htk : p.gs.take (j + 1) = p.gs.take j ++ [g] := by rw [List.take_add_one, hg]; rfl
    have hsn := fitsGs_snoc hy hj2
    rw [← htk, ← hj3] at hsn
    have hszy : szR y ≤ szGs p.gs := by have := szGs_le hgm; rw [szG_eq, hy, szL, szL] at this; omega
    have ihy := ih0 y high lg ((wfG_all (hwa.g g hgm)).body y (by rw [hy]; exact List.mem_cons_self ..)) (by omega) (by omega) (by omega)
    unfold procE at ihy
    (repeat refine A.s rfl ?_)
    refine A.x rfl (by show (0 : Int) ≤ (j : Nat); omega) (encGl_at hg) (encG_eq g) rfl ?_
    (repeat first|refine A.s rfl ?_|refine A.r rfl rfl ?_|refine A.w rfl rfl ?_|refine A.b rfl fun bx=>?_)
    refine A.x rfl (by decide) (show (encRl g.body)[(0 : Int).toNat]? = some (encR y) from encRl_at (by rw [hy]; rfl)) (encR_eq y) rfl ?_
    (repeat refine A.s rfl ?_)
    refine A.valE 90 rfl (x' := AI (deep + 1)) (ai_eq hw2) ?_
    refine A.e rfl ihy .refl (List.Perm.swap _ _ _) fun lf2 hlf2 => ?_
    by_cases hfx : fitsR l ch.length high y lg (33 - (deep + 1))
    · refine A.valE 92 rfl (x' := AB true) (ab_eq (decide_eq_true hfx)) ?_
      (repeat refine A.s rfl ?_)
      refine A.less (Λ' := [.box b (ckA l ch x lf2), .box _ (cellsR p)]) (by repeat (first | exact List.Sublist.refl _ | apply List.Sublist.cons_cons | apply List.Sublist.cons)) ?_
      refine A.valE 80 rfl (x' := AI ((j + 1 : Nat) : Int)) (inc_eq j (by have := hwa.gl; omega)) ?_
      refine A.sub (by repeat (first | exact trivial | refine ⟨⟨_, rfl, .refl⟩, ?_⟩)) (jh (j + 1, lf2) ⟨by show j + 1 ≤ _; omega, hsn.2 hfx, ?_⟩ (by show _ - (j + 1) < _ - j; omega))
      show lf2 = left - 1 - (szL p.l : Nat) - (szGs (p.gs.take (j + 1)) : Nat)
      have e2 : szGs [g] = szR y := by rw [szGs, szGs, szG_eq, hy, szL, szL]; omega
      rw [hlf2 hfx, htk, szGs_append, hj3, e2]; omega
    · have hnf : ¬ fitsR l ch.length high p left (33 - deep) := fun hf => hfx (hsn.1 (fitsGs_take (hfl.1 hf).2 (j + 1)))
      refine A.valE 92 rfl (x' := AB false) (ab_eq (decide_eq_false hfx)) ?_
      (repeat refine A.s rfl ?_)
      (refine A.ret1 (Λ' := [.box b _]) rfl rfl rfl (by repeat (first | exact List.Sublist.refl _ | apply List.Sublist.cons_cons | apply List.Sublist.cons)) ⟨_, Sb.eq (ab_eq ?_), rfl, ?_⟩; exact (decide_eq_false hnf).symm; exact fun h => absurd h hnf)
  simp at hc
  have hjl : j = p.gs.length := by omega
  rw [hjl, List.take_length] at hj2 hj3
  (repeat refine A.s rfl ?_)
  refine A.ret1 (Λ' := [.box b _]) rfl rfl rfl (by repeat (first | exact List.Sublist.refl _ | apply List.Sublist.cons_cons | apply List.Sublist.cons)) ⟨_, Sb.eq (ab_eq ?_), rfl, ?_⟩
  · exact (decide_eq_true (hfl.2 ⟨hi2, hj2⟩)).symm
  · intro _; show lg = left - szR p; omega
end Go.Proofs.YtgmeahcclogfmaaDoor
/-!
  Layer 16: May, by the program.
-/
namespace Go.Proofs.YtgmeahcclogfmaaDoor
open Go Go.Tp
set_option linter.unusedVariables false
set_option linter.unusedSimpArgs false
set_option maxRecDepth 100000
set_option maxHeartbeats 4000000
theorem process_p (l : List KV) (ch : List Int) (hl : l.length ≤ 281474976710656) (hv : VarsOk l) (x : Nat → AV) (b : Nat) : ∀ (N : Nat) (p : PR) (deep : Int) (high : Bool) (left : Int), szR p ≤ N → wfR p → 0 ≤ left → left ≤ 2048 → 1 ≤ deep → deep ≤ 33 → procE l ch x b p deep high left
  | 0, p, _, _, _, hn, _, _, _, _, _ => by have := szR_pos p; omega
  | N + 1, p, deep, high, left, hn, hw, r0, r1, d0, d1 => by
    by_cases hk : 1 ≤ p.kind ∧ p.kind ≤ 15
    · have hck := check_some b p.kind hk
      by_cases hz : left = 0 ∨ deep = 33
      · exact proc_a l ch x b p deep high left hz r0 r1 _ hck
      have hle := kind_lent l ch hl hv p (wfR_all hw) hk
      cases hkb : kindB l ch.length p with
      | false => exact proc_c l ch x b p deep high left (by omega) r1 d0 (by omega) _ hck hle hkb
      | true =>
        cases hh : (high && p.kind == 11) with
        | true =>
          simp only [Bool.and_eq_true, beq_iff_eq] at hh
          rw [hh.1]
          exact proc_d l ch x b p deep left (by omega) r1 d0 (by omega) _ hck hle hkb hh.2
        | false => exact proc_e l ch x b p hw deep high left (by omega) r1 d0 (by omega) _ hck hle hkb hh fun y hi lf hwy hsz l0 l1 => process_p l ch hl hv x b N y (deep + 1) hi lf (by omega) hwy l0 l1 (by omega) (by omega)
    · have hck := check_none b p.kind hk
      have hno : kindB l ch.length p = false := by
        cases h : kindB l ch.length p with
        | false => rfl
        | true => have := kind_bodies h; exact (hk ⟨this.1, this.2.1⟩).elim
      by_cases hz : left = 0 ∨ deep = 33
      · exact proc_a l ch x b p deep high left hz r0 r1 _ hck
      · exact proc_b l ch x b p deep high left (by omega) r1 d0 (by omega) hck hno
/-! ### lists of numbers -/
abbrev intsA (l : List Int) : AV := .sl 1 (l.map AI) none
def idxI (v : Int) (l : List Int) (i : Nat) : Int := idxF (fun x => v == x) l i
theorem index_p (l : List Int) (v : Int) (hb : l.length ≤ 281474976710656) : Pure Tryd.prog gs0 34 [intsA l, AI v] (AI (idxI v l 0)) := by
  refine Pure.of (S := tt) (fn := Tryd.f34) (n := 19) tt_ok Tryd.func34 rfl rfl rfl rfl fun w0 h0 F hgs => ?_
  (repeat refine A.s rfl ?_)
  refine A.valE 7 rfl (x' := AI (l.length : Nat)) (ai_eq (by rw [List.length_map])) ?_
  refine A.keep [0, 1, 7, 8] rfl ?_
  refine A.loopP (ι := Nat) (fun i => (⟨[(0, intsA l), (1, AI v), (7, AI (l.length : Nat)), (8, AI (i : Int))], []⟩, [])) (fun i => i ≤ l.length ∧ idxI v l 0 = idxI v (l.drop i) i) (fun i => l.length - i) 0 ⟨by omega, rfl⟩ rfl fun i hi ih => ?_
  (repeat refine A.s rfl ?_)
  refine A.cond rfl (fun hc => ?_) (fun hc => ?_)
  · simp at hc
    refine Exists.elim (at_exN (l := l) (i := i) hc) fun x hx => ?_
    have h1 : idxI v l 0 = if (v == x) = true then (i : Int) else idxI v (l.drop (i + 1)) (i + 1) := by rw [hi.2, drop_at hx]; rfl
    (repeat refine A.s rfl ?_)
    refine A.x rfl (by omega) (map_at hx) rfl rfl ?_
    (repeat refine A.s rfl ?_)
    refine A.cond rfl (fun hc => ?_) (fun hc => ?_)
    · rw [hc, if_pos rfl] at h1
      (repeat refine A.s rfl ?_); refine A.ret1 (Λ' := []) rfl rfl rfl (List.nil_sublist _) ⟨?_, rfl⟩; rw [h1]; exact .refl
    · rw [hc, if_neg (by simp)] at h1
      (repeat refine A.s rfl ?_)
      refine A.valE 8 rfl (x' := AI ((i + 1 : Nat) : Int)) (inc_eq i (by omega)) ?_
      refine A.sub (by repeat (first | exact trivial | refine ⟨⟨_, rfl, .refl⟩, ?_⟩)) (ih (i + 1) ⟨by omega, h1⟩ (by omega))
  · simp at hc
    have : i = l.length := by omega
    subst this
    (repeat refine A.s rfl ?_); refine A.ret1 (Λ' := []) rfl rfl rfl (List.nil_sublist _) ⟨?_, rfl⟩; rw [hi.2, List.drop_length]; exact .refl
theorem contains_p (l : List Int) (v : Int) (hb : l.length ≤ 281474976710656) : Pure Tryd.prog gs0 25 [intsA l, AI v] (AB (l.contains v)) := by
  refine Pure.of (S := tt) (fn := Tryd.f25) (n := 9) tt_ok Tryd.func25 rfl rfl rfl rfl fun w0 h0 F hgs => ?_
  (repeat refine A.s rfl ?_)
  refine A.c rfl (index_p l v hb) .refl ?_
  (repeat refine A.s rfl ?_); refine A.ret1 (Λ' := []) rfl rfl rfl (List.nil_sublist _) ⟨?_, rfl⟩; refine Sb.eq (ab_eq ?_)
  rw [idxI, idxF_any, List.contains_eq_any_beq]
/-! ### kernels -/
structure KN where
  vars : List KV
  chans : List Int
  root : PR
  procs : List Int
abbrev encN (k : KN) : AV := .ag [varsA k.vars, chsA k.chans, AU8 k.root.kind, AI k.root.c, AI k.root.v, AU8 k.root.item, plsA k.root.to, kesA k.root.e, gsA k.root.gs, rsA k.root.l, intsA k.procs]
structure WfN (k : KN) : Prop where
  vars : k.vars.length ≤ 281474976710656
  chans : k.chans.length ≤ 281474976710656
  procs : k.procs.length ≤ 281474976710656
  root : wfR k.root
def okPr : List Int → List Int → Bool
  | _, [] => true
  | seen, n :: r => decide (0 ≤ n) && decide (n < 8) && !seen.contains n && okPr (seen ++ [n]) r
def varOk (v : KV) : Bool := primB v.kind && decide (0 ≤ v.dim) && decide (v.dim ≤ 64)
def wantH (i : Nat) : Int := if i = 0 then 1 else if i = 1 then 2 else 0
def okCh : Nat → List Int → Bool
  | _, [] => true
  | i, h :: r => h == wantH i && okCh (i + 1) r
def lensK (k : KN) : Bool := decide (k.vars.length ≤ 256) && decide (2 ≤ k.chans.length) && decide (k.chans.length ≤ 64)
def rootK (k : KN) : Bool := k.procs.length == 0 || (k.root.kind == 10 && k.root.l.length == k.procs.length)
def mayK (k : KN) : Bool := lensK k && rootK k && okPr [] k.procs && k.vars.all varOk && okCh 0 k.chans && decide (fitsR k.vars k.chans.length false k.root 2048 32)
theorem varsOk_of {l : List KV} (h : l.all varOk = true) : VarsOk l := fun y hy => by
  have := List.all_eq_true.1 h y hy
  simp only [varOk, primB, Bool.and_eq_true, decide_eq_true_eq] at this
  omega
def xN (k : KN) : Nat → AV := fun i => ([AU8 k.root.kind, AI k.root.c, AI k.root.v, AU8 k.root.item, plsA k.root.to, kesA k.root.e, gsA k.root.gs, rsA k.root.l, intsA k.procs] : List AV).getD i (AI 0)
theorem kmay_a (k : KN) (h : (lensK k && rootK k) = false) : Pure Tryd.prog gs0 17 [encN k] (AB false) := by
  have n1 : ((k.vars.map encV).length : Int) = k.vars.length := by rw [List.length_map]
  have n2 : ((k.chans.map AU8).length : Int) = k.chans.length := by rw [List.length_map]
  have n3 : ((k.procs.map AI).length : Int) = k.procs.length := by rw [List.length_map]
  have n4 : ((encRl k.root.l).length : Int) = k.root.l.length := by rw [encRl_len]
  refine Pure.of (S := tt) (fn := Tryd.f17) (n := 116) tt_ok Tryd.func17 rfl rfl rfl rfl fun w0 h0 F hgs => ?_
  (repeat first|refine A.s rfl ?_|refine A.r rfl rfl ?_|refine A.b rfl fun bx=>?_|refine A.step rfl ?_|refine A.v rfl rfl ?_)
  refine A.valE 26 rfl (x' := AB (!lensK k)) (ab_eq ?_) ?_
  · rw [n1, n2, lensK, Bool.eq_iff_iff]; simp; omega
  cases hlk : lensK k with
  | false => (repeat refine A.s rfl ?_); refine A.ret1 (Λ' := []) rfl rfl rfl (List.nil_sublist _) ⟨?_, rfl⟩; exact .refl
  | true =>
    rw [hlk, Bool.true_and] at h
    (repeat first|refine A.s rfl ?_|refine A.r rfl rfl ?_|refine A.step rfl ?_|refine A.v rfl rfl ?_)
    refine A.valE 46 rfl (x' := AB true) (ab_eq ?_) ?_
    · rw [n3, n4]
      have h' : ¬ k.procs.length = 0 ∧ ¬ (k.root.kind = 10 ∧ k.root.l.length = k.procs.length) := by simpa [rootK] using h
      by_cases hk : k.root.kind = 10
      · rw [Bool.eq_iff_iff]; simp [hk]; omega
      · rw [Bool.eq_iff_iff]; simp [hk]; omega
    (repeat refine A.s rfl ?_); refine A.ret1 (Λ' := []) rfl rfl rfl (List.nil_sublist _) ⟨?_, rfl⟩; exact .refl
theorem kmay_b (k : KN) (hw : WfN k) (h : (lensK k && rootK k) = true) (R : Bool) (hR : (okPr [] k.procs && k.vars.all varOk && okCh 0 k.chans && decide (fitsR k.vars k.chans.length false k.root 2048 32)) = R) : Pure Tryd.prog gs0 17 [encN k] (AB R) := by
  have n1 : ((k.vars.map encV).length : Int) = k.vars.length := by rw [List.length_map]
  have n2 : ((k.chans.map AU8).length : Int) = k.chans.length := by rw [List.length_map]
  have n3 : ((k.procs.map AI).length : Int) = k.procs.length := by rw [List.length_map]
  have n4 : ((encRl k.root.l).length : Int) = k.root.l.length := by rw [encRl_len]
  rw [Bool.and_eq_true] at h
  have hlk : k.vars.length ≤ 256 ∧ 2 ≤ k.chans.length ∧ k.chans.length ≤ 64 := by have := h.1; simp only [lensK, Bool.and_eq_true, decide_eq_true_eq] at this; omega
  have hrk : k.procs.length = 0 ∨ (k.root.kind = 10 ∧ k.root.l.length = k.procs.length) := by simpa [rootK] using h.2
  have hpl := hw.procs
  generalize hR1 : (k.vars.all varOk && okCh 0 k.chans && decide (fitsR k.vars k.chans.length false k.root 2048 32)) = R1
  rw [Bool.and_assoc, Bool.and_assoc, ← Bool.and_assoc (k.vars.all varOk), hR1] at hR
  refine Pure.of (S := tt) (fn := Tryd.f17) (n := 116) tt_ok Tryd.func17 rfl rfl rfl rfl fun w0 h0 F hgs => ?_
  (repeat first|refine A.s rfl ?_|refine A.r rfl rfl ?_|refine A.b rfl fun bx=>?_|refine A.step rfl ?_|refine A.v rfl rfl ?_)
  refine A.valE 26 rfl (x' := AB false) (ab_eq ?_) ?_
  · rw [n1, n2, Bool.eq_iff_iff]; simp; omega
  (repeat first|refine A.s rfl ?_|refine A.r rfl rfl ?_|refine A.step rfl ?_|refine A.v rfl rfl ?_)
  refine A.valE 46 rfl (x' := AB false) (ab_eq ?_) ?_
  · rw [n3, n4]
    rcases hrk with hp0 | ⟨hk, hl2⟩
    · simp [hp0]
    · simp [hk, hl2]
  (repeat first|refine A.s rfl ?_|refine A.r rfl rfl ?_)
  refine A.valE 49 rfl (x' := AI (k.procs.length : Nat)) (ai_eq n3) ?_
  refine A.keep [1, 48, 49, 50] rfl ?_
  refine A.loopP (ι := Nat) (fun i => (⟨[(1, ptrA _), (48, intsA k.procs), (49, AI (k.procs.length : Nat)), (50, AI (i : Nat))], []⟩, [.box _ (encN k)])) (fun i => i ≤ k.procs.length ∧ (okPr (k.procs.take i) (k.procs.drop i) && R1) = R) (fun i => k.procs.length - i) 0 ⟨by omega, hR⟩ rfl fun i hi ih => ?_
  (repeat refine A.s rfl ?_)
  refine A.cond rfl (fun hc => ?_) (fun hc => ?_)
  · simp at hc
    refine Exists.elim (at_exN (l := k.procs) (i := i) (by omega)) fun v hv => ?_
    have h1 := hi.2
    rw [drop_at hv, okPr] at h1
    have htk : k.procs.take (i + 1) = k.procs.take i ++ [v] := by rw [List.take_add_one, hv]; rfl
    have hcn := contains_p (k.procs.take i) v (by rw [List.length_take]; omega)
    (repeat refine A.s rfl ?_)
    refine A.x rfl (by omega) (map_at hv) rfl rfl ?_
    (repeat refine A.s rfl ?_)
    ((fail_if_success (refine A.lit? rfl ?_)); refine A.gS rfl (fun hc => ?_) (fun hc => ?_))
    · have hc0 : v < 0 := by simpa using hc
      rw [decide_eq_false (by omega)] at h1
      (repeat refine A.s rfl ?_); refine A.ret1 (Λ' := []) rfl rfl rfl (List.nil_sublist _) ⟨?_, rfl⟩; rw [← h1]; exact .refl
    have hc0 : 0 ≤ v := by simpa using hc
    (repeat refine A.s rfl ?_)
    ((fail_if_success (refine A.lit? rfl ?_)); refine A.gS rfl (fun hc => ?_) (fun hc => ?_))
    · have hc1 : 8 ≤ v := by simpa using hc
      rw [decide_eq_false (p := v < 8) (by omega), Bool.and_false] at h1
      (repeat refine A.s rfl ?_); refine A.ret1 (Λ' := []) rfl rfl rfl (List.nil_sublist _) ⟨?_, rfl⟩; rw [← h1]; exact .refl
    have hc1 : v < 8 := by simpa using hc
    rw [decide_eq_true hc0, decide_eq_true hc1, Bool.true_and, Bool.true_and] at h1
    (repeat first|refine A.s rfl ?_|refine A.r rfl rfl ?_)
    refine A.slice (ys := (k.procs.take i).map AI) rfl rfl rfl rfl rfl rfl rfl rfl rfl (by decide) (by omega) (by rw [List.length_map]; omega) (by simp [List.map_take]) rfl ?_
    (repeat refine A.s rfl ?_)
    refine A.c rfl hcn .refl ?_
    (repeat refine A.s rfl ?_)
    refine A.cond rfl (fun hc => ?_) (fun hc => ?_)
    · have hc : (k.procs.take i).contains v = true := hc
      rw [hc, Bool.not_true, Bool.false_and, Bool.false_and] at h1
      (repeat refine A.s rfl ?_); refine A.ret1 (Λ' := []) rfl rfl rfl (List.nil_sublist _) ⟨?_, rfl⟩; rw [← h1]; exact .refl
    · have hc : (k.procs.take i).contains v = false := hc
      rw [hc, Bool.not_false, Bool.true_and, ← htk] at h1
      (repeat refine A.s rfl ?_)
      refine A.valE 50 rfl (x' := AI ((i + 1 : Nat) : Int)) (inc_eq i (by omega)) ?_
      refine A.sub (by repeat (first | exact trivial | refine ⟨⟨_, rfl, .refl⟩, ?_⟩)) (ih (i + 1) ⟨by omega, h1⟩ (by omega))
  simp at hc
  have hil : i = k.procs.length := by omega
  have h1 := hi.2
  rw [hil, List.drop_length, okPr, Bool.true_and] at h1
  rw [← hR1, Bool.and_assoc] at h1
  generalize hR2 : (okCh 0 k.chans && decide (fitsR k.vars k.chans.length false k.root 2048 32)) = R2 at h1
  clear ih hi hR hR1
  (repeat first|refine A.s rfl ?_|refine A.r rfl rfl ?_)
  refine A.valE 72 rfl (x' := AI (k.vars.length : Nat)) (ai_eq n1) ?_
  refine A.keep [1, 71, 72, 73] rfl ?_
  refine A.loopP (ι := Nat) (fun i => (⟨[(1, ptrA _), (71, varsA k.vars), (72, AI (k.vars.length : Nat)), (73, AI (i : Nat))], []⟩, [.box _ (encN k)])) (fun i => i ≤ k.vars.length ∧ ((k.vars.drop i).all varOk && R2) = R ∧ (k.vars.take i).all varOk = true) (fun i => k.vars.length - i) 0 ⟨by omega, h1, rfl⟩ rfl fun j hi ih => ?_
  (repeat refine A.s rfl ?_)
  refine A.cond rfl (fun hc => ?_) (fun hc => ?_)
  · simp at hc
    refine Exists.elim (at_exN (l := k.vars) (i := j) (by omega)) fun v hv => ?_
    have h2 := hi.2.1
    have htv : k.vars.take (j + 1) = k.vars.take j ++ [v] := by rw [List.take_add_one, hv]; rfl
    rw [drop_at hv, List.all_cons, varOk] at h2
    (repeat refine A.s rfl ?_)
    refine A.x rfl (by omega) (map_at hv) rfl rfl ?_
    (repeat first|refine A.s rfl ?_|refine A.r rfl rfl ?_|refine A.w rfl rfl ?_|refine A.b rfl fun bx=>?_)
    refine A.c rfl (kprim_p v.kind) .refl ?_
    (repeat refine A.s rfl ?_)
    ((fail_if_success (refine A.lit? rfl ?_)); refine A.gS rfl (fun hc => ?_) (fun hc => ?_))
    · have hc0 : primB v.kind = false := by simpa using hc
      rw [hc0] at h2
      (repeat refine A.s rfl ?_); refine A.ret1 (Λ' := []) rfl rfl rfl (List.nil_sublist _) ⟨?_, rfl⟩; rw [← h2]; exact .refl
    have hc0 : primB v.kind = true := by simpa using hc
    (repeat first|refine A.s rfl ?_|refine A.r rfl rfl ?_)
    ((fail_if_success (refine A.lit? rfl ?_)); refine A.gS rfl (fun hc => ?_) (fun hc => ?_))
    · have hc1 : v.dim < 0 := by simpa using hc
      rw [decide_eq_false (p := 0 ≤ v.dim) (by omega), Bool.and_false] at h2
      (repeat refine A.s rfl ?_); refine A.ret1 (Λ' := []) rfl rfl rfl (List.nil_sublist _) ⟨?_, rfl⟩; rw [← h2]; exact .refl
    have hc1 : 0 ≤ v.dim := by simpa using hc
    (repeat first|refine A.s rfl ?_|refine A.r rfl rfl ?_)
    refine A.cond rfl (fun hc => ?_) (fun hc => ?_)
    · have hc2 : 64 < v.dim := by simpa using hc
      rw [decide_eq_false (p := v.dim ≤ 64) (by omega), Bool.and_false] at h2
      (repeat refine A.s rfl ?_); refine A.ret1 (Λ' := []) rfl rfl rfl (List.nil_sublist _) ⟨?_, rfl⟩; rw [← h2]; exact .refl
    · have hc2 : v.dim ≤ 64 := by simpa using hc
      rw [hc0, decide_eq_true hc1, decide_eq_true hc2] at h2
      simp only [Bool.true_and] at h2
      (repeat refine A.s rfl ?_)
      refine A.less (Λ' := [.box _ (encN k)]) (by repeat (first | exact List.Sublist.refl _ | apply List.Sublist.cons_cons | apply List.Sublist.cons)) ?_
      refine A.valE 73 rfl (x' := AI ((j + 1 : Nat) : Int)) (inc_eq j (by omega)) ?_
      refine A.sub (by repeat (first | exact trivial | refine ⟨⟨_, rfl, .refl⟩, ?_⟩)) (ih (j + 1) ⟨by omega, h2, by rw [htv, List.all_append, hi.2.2]; simp [varOk, hc0, hc1, hc2]⟩ (by omega))
  simp at hc
  have hjl : j = k.vars.length := by omega
  have h2 := hi.2.1
  have hvo := hi.2.2
  rw [hjl, List.take_length] at hvo
  rw [hjl, List.drop_length, List.all_nil, Bool.true_and] at h2
  clear ih hi
  rw [← hR2] at h2
  generalize hR3 : decide (fitsR k.vars k.chans.length false k.root 2048 32) = R3 at h2
  have hpr := fun b => process_p k.vars k.chans hw.vars (varsOk_of hvo) (xN k) b (szR k.root) k.root 1 false 2048 (Nat.le_refl _) hw.root (by decide) (by decide) (by decide) (by decide)
  simp only [procE, show (33 : Int) - 1 = 32 from rfl] at hpr
  (repeat first|refine A.s rfl ?_|refine A.r rfl rfl ?_)
  refine A.valE 94 rfl (x' := AI (k.chans.length : Nat)) (ai_eq n2) ?_
  refine A.keep [1, 93, 94, 95] rfl ?_
  refine A.loopP (ι := Nat) (fun i => (⟨[(1, ptrA _), (93, chsA k.chans), (94, AI (k.chans.length : Nat)), (95, AI (i : Nat))], []⟩, [.box _ (encN k)])) (fun i => i ≤ k.chans.length ∧ (okCh i (k.chans.drop i) && R3) = R) (fun i => k.chans.length - i) 0 ⟨by omega, h2⟩ rfl fun m hi ih => ?_
  (repeat refine A.s rfl ?_)
  refine A.cond rfl (fun hc => ?_) (fun hc => ?_)
  · simp at hc
    refine Exists.elim (at_exN (l := k.chans) (i := m) (by omega)) fun v hv => ?_
    have h3 := hi.2
    rw [drop_at hv, okCh] at h3
    (repeat refine A.s rfl ?_)
    refine A.x rfl (by omega) (map_at hv) rfl rfl ?_
    by_cases m0 : m = 0
    · subst m0
      rw [show wantH 0 = 1 from rfl] at h3
      (repeat refine A.s rfl ?_)
      refine A.cond rfl (fun hc => ?_) (fun hc => ?_)
      · have hc : (v != 1) = true := hc
        have hv1 : (v == 1) = false := by simpa using hc
        rw [hv1] at h3
        (repeat refine A.s rfl ?_); refine A.ret1 (Λ' := []) rfl rfl rfl (List.nil_sublist _) ⟨?_, rfl⟩; rw [← h3]; exact .refl
      · have hc : (v != 1) = false := hc
        have hv1 : (v == 1) = true := by simpa using hc
        rw [hv1, Bool.true_and] at h3
        (repeat refine A.s rfl ?_)
        refine A.sub (by repeat (first | exact trivial | refine ⟨⟨_, rfl, .refl⟩, ?_⟩)) (ih 1 ⟨by omega, h3⟩ (by omega))
    by_cases m1 : m = 1
    · subst m1
      rw [show wantH 1 = 2 from rfl] at h3
      (repeat refine A.s rfl ?_)
      refine A.cond rfl (fun hc => ?_) (fun hc => ?_)
      · have hc : (v != 2) = true := hc
        have hv1 : (v == 2) = false := by simpa using hc
        rw [hv1] at h3
        (repeat refine A.s rfl ?_); refine A.ret1 (Λ' := []) rfl rfl rfl (List.nil_sublist _) ⟨?_, rfl⟩; rw [← h3]; exact .refl
      · have hc : (v != 2) = false := hc
        have hv1 : (v == 2) = true := by simpa using hc
        rw [hv1, Bool.true_and] at h3
        (repeat refine A.s rfl ?_)
        refine A.sub (by repeat (first | exact trivial | refine ⟨⟨_, rfl, .refl⟩, ?_⟩)) (ih 2 ⟨by omega, h3⟩ (by omega))
    · rw [show wantH m = 0 by simp [wantH, m0, m1]] at h3
      (repeat refine A.s rfl ?_)
      refine A.valE 101 rfl (x' := AB false) (ab_eq (by simp; omega)) ?_
      (repeat refine A.s rfl ?_)
      refine A.valE 103 rfl (x' := AB false) (ab_eq (by simp; omega)) ?_
      (repeat refine A.s rfl ?_)
      refine A.cond rfl (fun hc => ?_) (fun hc => ?_)
      · have hc : (v != 0) = true := hc
        have hv1 : (v == 0) = false := by simpa using hc
        rw [hv1] at h3
        (repeat refine A.s rfl ?_); refine A.ret1 (Λ' := []) rfl rfl rfl (List.nil_sublist _) ⟨?_, rfl⟩; rw [← h3]; exact .refl
      · have hc : (v != 0) = false := hc
        have hv1 : (v == 0) = true := by simpa using hc
        rw [hv1, Bool.true_and] at h3
        (repeat refine A.s rfl ?_)
        refine A.valE 95 rfl (x' := AI ((m + 1 : Nat) : Int)) (inc_eq m (by omega)) ?_
        refine A.sub (by repeat (first | exact trivial | refine ⟨⟨_, rfl, .refl⟩, ?_⟩)) (ih (m + 1) ⟨by omega, h3⟩ (by omega))
  simp at hc
  have hml : m = k.chans.length := by omega
  have h3 := hi.2
  rw [hml, List.drop_length, okCh, Bool.true_and] at h3
  clear ih hi
  (repeat first|refine A.s rfl ?_|refine A.r rfl rfl ?_|refine A.b rfl fun bx=>?_)
  refine A.entsEq (Λ' := [.box _ (ckA k.vars k.chans (xN k) 2048), .box _ (encN k)]) rfl ?_
  refine A.e rfl (hpr _) .refl (List.Perm.refl _) fun lf _ => ?_
  (repeat refine A.s rfl ?_); refine A.ret1 (Λ' := []) rfl rfl rfl (List.nil_sublist _) ⟨?_, rfl⟩; refine Sb.eq (ab_eq ?_); rw [← h3, ← hR3]
theorem kmay_p (k : KN) (hw : WfN k) : Pure Tryd.prog gs0 17 [encN k] (AB (mayK k)) := by
  by_cases h : (lensK k && rootK k) = true
  · have := kmay_b k hw h _ rfl
    unfold mayK
    rw [h, Bool.true_and]
    exact this
  · have h : (lensK k && rootK k) = false := by simpa using h
    have := kmay_a k h
    unfold mayK
    rw [h, Bool.false_and, Bool.false_and, Bool.false_and, Bool.false_and]
    exact this
end Go.Proofs.YtgmeahcclogfmaaDoor
/-!
  Layer 16: shapes, places, channels, guards, by the reference.
-/
namespace Go.Proofs.YtgmeahcclogfmaaDoor
open Go Go.Tp
set_option linter.unusedVariables false
set_option linter.unusedSimpArgs false
set_option maxRecDepth 100000
set_option maxHeartbeats 4000000
structure FM where
  c : Bool
  v : Bool
  t1 : Int
  t2 : Int
  e1 : Int
  e2 : Int
  g1 : Int
  g2 : Int
  l1 : Int
  l2 : Int
abbrev fmA (f : FM) : AV := .ag [AB f.c, AB f.v, AB f.c, AI f.t1, AI f.t2, AI f.e1, AI f.e2, AI f.g1, AI f.g2, AI f.l1, AI f.l2]
def fm0 : FM := ⟨false, false, 0, 0, 0, 0, 0, 0, 0, 0⟩
def formK (k : Int) : Option FM :=
  if k = 1 ∨ k = 2 then some fm0 else if k = 3 then some ⟨false, true, 0, 0, 0, 0, 0, 0, 0, 0⟩ else if k = 4 then some ⟨false, false, 1, 8, 1, 8, 0, 0, 0, 0⟩
  else if k = 5 then some ⟨true, false, 1, 1, 0, 0, 0, 0, 0, 0⟩ else if k = 6 then some ⟨true, false, 0, 0, 1, 1, 0, 0, 0, 0⟩ else if k = 7 then some ⟨false, false, 1, 1, 0, 0, 0, 0, 0, 0⟩
  else if k = 8 then some ⟨false, false, 0, 0, 1, 1, 0, 0, 0, 0⟩ else if k = 9 then some ⟨false, false, 0, 0, 0, 0, 0, 0, 0, 2048⟩ else if k = 10 then some ⟨false, false, 0, 0, 0, 0, 0, 0, 0, 16⟩
  else if k = 11 then some ⟨false, false, 0, 0, 0, 0, 0, 0, 2, 2⟩ else if k = 12 ∨ k = 14 ∨ k = 15 then some ⟨false, false, 0, 0, 0, 0, 0, 16, 0, 0⟩ else if k = 13 then some ⟨false, false, 0, 0, 1, 1, 0, 0, 1, 1⟩ else none
theorem kinds_15 {k : Int} (h : 1 ≤ k ∧ k ≤ 15) : k = 1 ∨ k = 2 ∨ k = 3 ∨ k = 4 ∨ k = 5 ∨ k = 6 ∨ k = 7 ∨ k = 8 ∨ k = 9 ∨ k = 10 ∨ k = 11 ∨ k = 12 ∨ k = 13 ∨ k = 14 ∨ k = 15 := by omega
def looksB (p : PR) : Bool := match formK p.kind with
  | some f => shapeR p f.c f.v f.t1 f.t2 f.e1 f.e2 f.g1 f.g2 f.l1 f.l2
  | none => false
end Go.Proofs.YtgmeahcclogfmaaDoor
/-!
  Layer 16: guards, by the reference.
-/
namespace Go.Proofs.YtgmeahcclogfmaaDoor
open Go Go.Tp
set_option linter.unusedVariables false
set_option linter.unusedSimpArgs false
set_option maxRecDepth 100000
set_option maxHeartbeats 4000000
def usesG (g : GD) : Bool := g.c == 0 && g.item == 0 && g.to.v == 0 && g.to.ix.length == 0
end Go.Proofs.YtgmeahcclogfmaaDoor
/-!
  Layer 16: a process by itself, by the reference.
-/
namespace Go.Proofs.YtgmeahcclogfmaaDoor
open Go Go.Tp
set_option linter.unusedVariables false
set_option linter.unusedSimpArgs false
set_option maxRecDepth 100000
set_option maxHeartbeats 4000000
end Go.Proofs.YtgmeahcclogfmaaDoor
/-!
  Layer 16: assignments, and any process by itself, by the reference.
-/
namespace Go.Proofs.YtgmeahcclogfmaaDoor
open Go Go.Tp
set_option linter.unusedVariables false
set_option linter.unusedSimpArgs false
set_option maxRecDepth 100000
set_option maxHeartbeats 4000000
abbrev P4 (c v it : Int) (to : List PL) (e : List KE) (b : List PR) : PR := ⟨4, c, v, it, to, e, [], b⟩
theorem one_of {α : Type} {l : List α} (h : l.length = 1) : ∃ a, l = [a] := by
  match l, h with
  | [a], _ => exact ⟨a, rfl⟩
theorem looks_of_kind {l : List KV} {n : Nat} {p : PR} (h : looksB p = false) : kindB l n p = false := by
  cases hk : kindB l n p with
  | false => rfl
  | true =>
    obtain ⟨kd, c, v, it, to, e, gs, b⟩ := p
    have hr := kind_bodies hk
    exfalso
    simp only [PR.kind] at hr
    rcases kinds_15 ⟨hr.1, hr.2.1⟩ with rfl | rfl | rfl | rfl | rfl | rfl | rfl | rfl | rfl | rfl | rfl | rfl | rfl | rfl | rfl
    · have hs : kindB l n ⟨1, c, v, it, to, e, gs, b⟩ = (looksB ⟨1, c, v, it, to, e, gs, b⟩) := rfl
      rw [hs, h] at hk; simp at hk
    · have hs : kindB l n ⟨2, c, v, it, to, e, gs, b⟩ = (looksB ⟨2, c, v, it, to, e, gs, b⟩) := rfl
      rw [hs, h] at hk; simp at hk
    · have hs : kindB l n ⟨3, c, v, it, to, e, gs, b⟩ = (looksB ⟨3, c, v, it, to, e, gs, b⟩ && decide (0 ≤ v) && decide (v < l.length)) := rfl
      rw [hs, h] at hk; simp at hk
    · have hs : kindB l n ⟨4, c, v, it, to, e, gs, b⟩ = (looksB ⟨4, c, v, it, to, e, gs, b⟩ && (to.length == e.length) && (to.zip e).all fun te => assignB l te.1 te.2) := rfl
      rw [hs, h] at hk; simp at hk
    · have hs : kindB l n ⟨5, c, v, it, to, e, gs, b⟩ = (looksB ⟨5, c, v, it, to, e, gs, b⟩ && to1 (inputB l n c it) to) := rfl
      rw [hs, h] at hk; simp at hk
    · have hs : kindB l n ⟨6, c, v, it, to, e, gs, b⟩ = (looksB ⟨6, c, v, it, to, e, gs, b⟩ && chanB n c it 0 && fit1 l e it) := rfl
      rw [hs, h] at hk; simp at hk
    · have hs : kindB l n ⟨7, c, v, it, to, e, gs, b⟩ = (looksB ⟨7, c, v, it, to, e, gs, b⟩ && to1 (fun t => placeB l t 1) to) := rfl
      rw [hs, h] at hk; simp at hk
    · have hs : kindB l n ⟨8, c, v, it, to, e, gs, b⟩ = (looksB ⟨8, c, v, it, to, e, gs, b⟩ && fit1 l e 1) := rfl
      rw [hs, h] at hk; simp at hk
    · have hs : kindB l n ⟨9, c, v, it, to, e, gs, b⟩ = (looksB ⟨9, c, v, it, to, e, gs, b⟩) := rfl
      rw [hs, h] at hk; simp at hk
    · have hs : kindB l n ⟨10, c, v, it, to, e, gs, b⟩ = (looksB ⟨10, c, v, it, to, e, gs, b⟩) := rfl
      rw [hs, h] at hk; simp at hk
    · have hs : kindB l n ⟨11, c, v, it, to, e, gs, b⟩ = (looksB ⟨11, c, v, it, to, e, gs, b⟩) := rfl
      rw [hs, h] at hk; simp at hk
    · have hs : kindB l n ⟨12, c, v, it, to, e, gs, b⟩ = (looksB ⟨12, c, v, it, to, e, gs, b⟩ && gs.all fun g => guardB l n g ((12 : Int) == 12)) := rfl
      rw [hs, h] at hk; simp at hk
    · have hs : kindB l n ⟨13, c, v, it, to, e, gs, b⟩ = (looksB ⟨13, c, v, it, to, e, gs, b⟩ && fit1 l e 3) := rfl
      rw [hs, h] at hk; simp at hk
    · have hs : kindB l n ⟨14, c, v, it, to, e, gs, b⟩ = (looksB ⟨14, c, v, it, to, e, gs, b⟩ && gs.all fun g => guardB l n g ((14 : Int) == 12)) := rfl
      rw [hs, h] at hk; simp at hk
    · have hs : kindB l n ⟨15, c, v, it, to, e, gs, b⟩ = (looksB ⟨15, c, v, it, to, e, gs, b⟩ && gs.all fun g => guardB l n g ((15 : Int) == 12)) := rfl
      rw [hs, h] at hk; simp at hk
end Go.Proofs.YtgmeahcclogfmaaDoor
/-!
  Layer 16: May, by the reference.
-/
namespace Go.Proofs.YtgmeahcclogfmaaDoor
open Go Go.Tp
set_option linter.unusedVariables false
set_option linter.unusedSimpArgs false
set_option maxRecDepth 100000
set_option maxHeartbeats 4000000
abbrev innA (k : KN) (deep : Int) (high : Bool) : AV := .ag [varsA k.vars, chsA k.chans, AU8 k.root.kind, AI k.root.c, AI k.root.v, AU8 k.root.item, plsA k.root.to, kesA k.root.e, gsA k.root.gs, rsA k.root.l, intsA k.procs, AI deep, AB high]
def leftI (k : KN) (high : Bool) (deep : Int) (p : PR) (n : Int) : Int := if fitsR k.vars k.chans.length high p n (32 - deep) then n - szR p else -1
end Go.Proofs.YtgmeahcclogfmaaDoor
/-!
  Layer 16: May, by the reference.
-/
namespace Go.Proofs.YtgmeahcclogfmaaDoor
open Go Go.Tp
set_option linter.unusedVariables false
set_option linter.unusedSimpArgs false
set_option maxRecDepth 100000
set_option maxHeartbeats 4000000
def finK (k : KN) : Bool := k.root.kind == 10 && k.root.l.length == k.procs.length
def placedK (k : KN) : Bool := k.procs.length == 0 || (okPr [] k.procs && finK k)
end Go.Proofs.YtgmeahcclogfmaaDoor
/-!
  Layer 16: May, by the reference.
-/
namespace Go.Proofs.YtgmeahcclogfmaaDoor
open Go Go.Tp
set_option linter.unusedVariables false
set_option linter.unusedSimpArgs false
set_option maxRecDepth 100000
set_option maxHeartbeats 4000000
end Go.Proofs.YtgmeahcclogfmaaDoor
/-!
  Chapter 23: the last process of a sequence that clears, by both texts.
-/
namespace Go.Proofs.YtgmeahcclogfmaaDoor
open Go Go.Tp
set_option linter.unusedVariables false
set_option linter.unusedSimpArgs false
set_option maxRecDepth 100000
set_option maxHeartbeats 4000000
theorem idxR_p {gs : Ua} (f : FuncId) (c : List AV) (p : PR → Bool) (l : List PR) (hcb : ∀ g, g ∈ l → Pure Tryd.prog gs f (cellsR g :: c) (AB (p g))) (hb : l.length ≤ 281474976710656) :
    Pure Tryd.prog gs 33 [rsA l, .fn f [] c] (AI (idxF p l 0)) := by
  refine Pure.of (S := tt) (fn := Tryd.f33) (n := 19) tt_ok Tryd.func33 rfl rfl rfl rfl fun w0 h0 F hgs => ?_
  (repeat refine A.s rfl ?_)
  refine A.valE 7 rfl (x' := AI (l.length : Nat)) (ai_eq (by rw [encRl_len])) ?_
  refine A.keep [0, 1, 7, 8] rfl ?_
  refine A.loopP (ι := Nat) (fun i => (⟨[(0, rsA l), (1, .fn f [] c), (7, AI (l.length : Nat)), (8, AI (i : Int))], []⟩, [])) (fun i => i ≤ l.length ∧ idxF p l 0 = idxF p (l.drop i) i) (fun i => l.length - i) 0 ⟨by omega, rfl⟩ rfl fun i hi ih => ?_
  (repeat refine A.s rfl ?_)
  refine A.cond rfl (fun hc => ?_) (fun hc => ?_)
  · simp at hc
    refine Exists.elim (at_exN (l := l) (i := i) hc) fun x hx => ?_
    have hx1 := hcb x (List.mem_of_getElem? hx)
    (repeat refine A.s rfl ?_)
    refine A.x rfl (by omega) (encRl_at hx) (encR_eq x) rfl ?_
    (repeat refine A.s rfl ?_)
    refine A.c rfl hx1 SbL.refl ?_
    have h1 := hi.2
    rw [drop_at hx, idxF] at h1
    cases hp : p x with
    | true =>
      rw [hp] at h1
      (repeat refine A.s rfl ?_); refine A.ret1 (Λ' := []) rfl rfl rfl (List.nil_sublist _) ⟨?_, rfl⟩; rw [h1]; exact .refl
    | false =>
      rw [hp] at h1
      (repeat refine A.s rfl ?_)
      refine A.valE 8 rfl (x' := AI ((i + 1 : Nat) : Int)) (inc_eq i (by omega)) ?_
      refine A.sub (by repeat (first | exact trivial | refine ⟨⟨_, rfl, .refl⟩, ?_⟩)) (ih (i + 1) ⟨by omega, h1⟩ (by omega))
  · simp at hc
    have : i = l.length := by omega
    subst this
    (repeat refine A.s rfl ?_); refine A.ret1 (Λ' := []) rfl rfl rfl (List.nil_sublist _) ⟨?_, rfl⟩; rw [hi.2, List.drop_length]; exact .refl
theorem hasR_p {gs : Ua} (f : FuncId) (c : List AV) (p : PR → Bool) (l : List PR) (hcb : ∀ g, g ∈ l → Pure Tryd.prog gs f (cellsR g :: c) (AB (p g))) (hb : l.length ≤ 281474976710656) :
    Pure Tryd.prog gs 23 [rsA l, .fn f [] c] (AB (l.any p)) := by
  refine Pure.of (S := tt) (fn := Tryd.f23) (n := 9) tt_ok Tryd.func23 rfl rfl rfl rfl fun w0 h0 F hgs => ?_
  (repeat refine A.s rfl ?_)
  refine A.c rfl (idxR_p f c p l hcb hb) .refl ?_
  (repeat refine A.s rfl ?_); refine A.ret1 (Λ' := []) rfl rfl rfl (List.nil_sublist _) ⟨?_, rfl⟩; refine Sb.eq (ab_eq ?_); exact idxF_any p l 0
/-! ### last -/
def unclear (p : PR) : Bool := p.kind != 3
theorem lastf_p (p : PR) : Pure Tryd.prog gs0 24 [cellsR p] (AB (unclear p)) := by
  refine Pure.of (S := tt) (fn := Tryd.f24) (n := 6) tt_ok Tryd.func24 rfl rfl rfl rfl fun w0 h0 F hgs => ?_
  (repeat first|refine A.s rfl ?_|refine A.r rfl rfl ?_|refine A.b rfl fun bx=>?_); refine A.ret1 (Λ' := []) rfl rfl rfl (List.nil_sublist _) ⟨?_, rfl⟩; exact .refl
def clearB (p : PR) : Bool := p.kind == 9 && (decide (0 < p.l.length) && !(p.l.take (p.l.length - 1)).any unclear)
def lastR (p : PR) : PR := if clearB p = true then p.l[p.l.length - 1]?.getD p else p
theorem lastR_yes {p y : PR} (h : clearB p = true) (hy : p.l[p.l.length - 1]? = some y) : lastR p = y := by rw [lastR, if_pos h, hy]; rfl
theorem lastR_no {p : PR} (h : clearB p = false) : lastR p = p := if_neg (by rw [h]; simp)
theorem last_a (p : PR) (kind : Int) (h : clearB p = false) (hl : p.l.length ≤ 281474976710656) : Pure Tryd.prog gs0 16 [cellsR p, AU8 kind] (.tp [cellsR p, AB (p.kind == kind)]) := by
  have n1 : ((encRl p.l).length : Int) = p.l.length := by rw [encRl_len]
  by_cases h9 : p.kind = 9
  case neg =>
    have h9b : (p.kind == 9) = false := beq_eq_false_iff_ne.2 h9
    refine Pure.of (S := tt) (fn := Tryd.f16) (n := 37) tt_ok Tryd.func16 rfl rfl rfl rfl fun w0 h0 F hgs => ?_
    (repeat first|refine A.s rfl ?_|refine A.r rfl rfl ?_|refine A.b rfl fun bx=>?_)
    refine A.valE 13 rfl (x' := AB false) (ab_eq h9b) ?_
    (repeat refine A.s rfl ?_)
    refine A.drawO 4 5 6 [0, 1, 2, 3, 4, 5] (fun i => if i = 5 then [5] else []) [] rfl (by decide) rfl (by kernel_rfl) ?_
    (repeat first|refine WA.s rfl ?_|refine WA.r rfl rfl ?_)
    refine WA.store rfl rfl rfl rfl rfl rfl rfl rfl rfl rfl ?_
    refine WA.nil (l := [_]) rfl ?_
    (repeat refine A.s rfl ?_)
    refine A.retN (Λ' := []) rfl rfl (ResA.cell rfl rfl rfl (ResA.tmp rfl ResA.nil)) (List.nil_sublist _) ⟨?_, rfl⟩
    exact .refl
  have h9b : (p.kind == 9) = true := beq_iff_eq.2 h9
  rw [clearB, h9b, Bool.true_and] at h
  by_cases h0 : 0 < p.l.length
  case neg =>
    refine Pure.of (S := tt) (fn := Tryd.f16) (n := 37) tt_ok Tryd.func16 rfl rfl rfl rfl fun w0 h0 F hgs => ?_
    (repeat first|refine A.s rfl ?_|refine A.r rfl rfl ?_|refine A.b rfl fun bx=>?_)
    refine A.valE 13 rfl (x' := AB true) (ab_eq h9b) ?_
    (repeat refine A.s rfl ?_)
    refine A.valE 17 rfl (x' := AB false) (ab_eq (by rw [n1]; exact decide_eq_false (by omega))) ?_
    (repeat refine A.s rfl ?_)
    refine A.drawO 4 5 6 [0, 1, 2, 3, 4, 5] (fun i => if i = 5 then [5] else []) [] rfl (by decide) rfl (by kernel_rfl) ?_
    (repeat first|refine WA.s rfl ?_|refine WA.r rfl rfl ?_)
    refine WA.store rfl rfl rfl rfl rfl rfl rfl rfl rfl rfl ?_
    refine WA.nil (l := [_]) rfl ?_
    (repeat refine A.s rfl ?_)
    refine A.retN (Λ' := []) rfl rfl (ResA.cell rfl rfl rfl (ResA.tmp rfl ResA.nil)) (List.nil_sublist _) ⟨?_, rfl⟩
    exact .refl
  rw [decide_eq_true h0, Bool.true_and] at h
  have hcf := hasR_p 24 [] unclear (p.l.take (p.l.length - 1)) (fun g _ => lastf_p g) (by rw [List.length_take]; omega)
  have hu : (p.l.take (p.l.length - 1)).any unclear = true := by simpa using h
  rw [hu] at hcf
  have hwr : IntKind.i64.wrap ((p.l.length : Int) - 1) = ((p.l.length - 1 : Nat) : Int) := by rw [wr64 _ (by omega)]; omega
  refine Pure.of (S := tt) (fn := Tryd.f16) (n := 37) tt_ok Tryd.func16 rfl rfl rfl rfl fun w0 h0 F hgs => ?_
  (repeat first|refine A.s rfl ?_|refine A.r rfl rfl ?_|refine A.b rfl fun bx=>?_)
  refine A.valE 13 rfl (x' := AB true) (ab_eq h9b) ?_
  (repeat refine A.s rfl ?_)
  refine A.valE 17 rfl (x' := AB true) (ab_eq (by rw [n1]; simp; omega)) ?_
  (repeat first|refine A.s rfl ?_|refine A.r rfl rfl ?_)
  refine A.valE 21 rfl (x' := AI ((p.l.length - 1 : Nat) : Int)) (ai_eq (by rw [n1]; exact hwr)) ?_
  refine A.slice (ys := encRl (p.l.take (p.l.length - 1))) rfl rfl rfl rfl rfl rfl rfl rfl rfl (by decide) (by omega) (by rw [encRl_len]; omega) (by simp [encRl_map, List.map_take]) rfl ?_
  skip
  refine A.c rfl hcf .refl ?_
  (repeat refine A.s rfl ?_)
  refine A.drawO 4 5 6 [0, 1, 2, 3, 4, 5] (fun i => if i = 5 then [5] else []) [] rfl (by decide) rfl (by kernel_rfl) ?_
  (repeat first|refine WA.s rfl ?_|refine WA.r rfl rfl ?_)
  refine WA.store rfl rfl rfl rfl rfl rfl rfl rfl rfl rfl ?_
  refine WA.nil (l := [_]) rfl ?_
  (repeat refine A.s rfl ?_)
  refine A.retN (Λ' := []) rfl rfl (ResA.cell rfl rfl rfl (ResA.tmp rfl ResA.nil)) (List.nil_sublist _) ⟨?_, rfl⟩
  exact .refl
theorem last_b (p y : PR) (kind : Int) (h : clearB p = true) (hy : p.l[p.l.length - 1]? = some y) (hl : p.l.length ≤ 281474976710656) : Pure Tryd.prog gs0 16 [cellsR p, AU8 kind] (.tp [cellsR y, AB (y.kind == kind)]) := by
  have n1 : ((encRl p.l).length : Int) = p.l.length := by rw [encRl_len]
  simp only [clearB, Bool.and_eq_true, decide_eq_true_eq, Bool.not_eq_true'] at h
  obtain ⟨h9b, h0, hu⟩ := h
  have hcf := hasR_p 24 [] unclear (p.l.take (p.l.length - 1)) (fun g _ => lastf_p g) (by rw [List.length_take]; omega)
  rw [hu] at hcf
  have hwr : IntKind.i64.wrap ((p.l.length : Int) - 1) = ((p.l.length - 1 : Nat) : Int) := by rw [wr64 _ (by omega)]; omega
  refine Pure.of (S := tt) (fn := Tryd.f16) (n := 37) tt_ok Tryd.func16 rfl rfl rfl rfl fun w0 h0 F hgs => ?_
  (repeat first|refine A.s rfl ?_|refine A.r rfl rfl ?_|refine A.b rfl fun bx=>?_)
  refine A.valE 13 rfl (x' := AB true) (ab_eq h9b) ?_
  (repeat refine A.s rfl ?_)
  refine A.valE 17 rfl (x' := AB true) (ab_eq (by rw [n1]; simp; omega)) ?_
  (repeat first|refine A.s rfl ?_|refine A.r rfl rfl ?_)
  refine A.valE 21 rfl (x' := AI ((p.l.length - 1 : Nat) : Int)) (ai_eq (by rw [n1]; exact hwr)) ?_
  refine A.slice (ys := encRl (p.l.take (p.l.length - 1))) rfl rfl rfl rfl rfl rfl rfl rfl rfl (by decide) (by omega) (by rw [encRl_len]; omega) (by simp [encRl_map, List.map_take]) rfl ?_
  skip
  refine A.c rfl hcf .refl ?_
  (repeat first|refine A.s rfl ?_|refine A.r rfl rfl ?_)
  refine A.valE 29 rfl (x' := AI ((p.l.length - 1 : Nat) : Int)) (ai_eq (by rw [n1]; exact hwr)) ?_
  refine A.x rfl (by omega) (encRl_at hy) (encR_eq y) rfl ?_
  (repeat first|refine A.s rfl ?_|refine A.w rfl rfl ?_)
  refine A.drawO 4 5 6 [0, 1, 2, 3, 4, 5] (fun i => if i = 5 then [5] else []) [] rfl (by decide) rfl (by kernel_rfl) ?_
  (repeat first|refine WA.s rfl ?_|refine WA.r rfl rfl ?_)
  refine WA.store rfl rfl rfl rfl rfl rfl rfl rfl rfl rfl ?_
  refine WA.nil (l := [_]) rfl ?_
  (repeat refine A.s rfl ?_)
  refine A.retN (Λ' := []) rfl rfl (ResA.cell rfl rfl rfl (ResA.tmp rfl ResA.nil)) (List.nil_sublist _) ⟨?_, rfl⟩
  exact .refl
theorem lastp_at {p : PR} (h : clearB p = true) : ∃ y, p.l[p.l.length - 1]? = some y := by
  simp only [clearB, Bool.and_eq_true, decide_eq_true_eq] at h
  exact at_exN (by omega)
theorem last_p (p : PR) (kind : Int) (hl : p.l.length ≤ 281474976710656) : Pure Tryd.prog gs0 16 [cellsR p, AU8 kind] (.tp [cellsR (lastR p), AB ((lastR p).kind == kind)]) := by
  cases h : clearB p with
  | false => rw [lastR_no h]; exact last_a p kind h hl
  | true =>
    obtain ⟨y, hy⟩ := lastp_at h
    rw [lastR_yes h hy]; exact last_b p y kind h hy hl
end Go.Proofs.YtgmeahcclogfmaaDoor
/-!
  Chapter 22: what an expression must look like: both texts of it.
-/
namespace Go.Proofs.YtgmeahcclogfmaaDoor.S22
open Go Go.Tp
set_option linter.unusedVariables false
set_option linter.unusedSimpArgs false
set_option maxRecDepth 100000
set_option maxHeartbeats 4000000
theorem retC0 {C : Cfg} {k : List It} {e : Env} {h : GH} {L : List Ent} {p : Nat} {t : TypeId} {b off : Nat} {ti : TI} {x : Ent} {v : Value} (hk : atEnd k = true) (hrd : C.rd = none) (hD : C.D = []) (hr : C.fn.results = #[.cell p t]) (hl : Go.Tp.look e.us p = some (.pointer (some ⟨b, off, none⟩))) (ht : C.S.get t = some ti)
    [i : EntAt L b x] (hv : ldV ti x off = some v) (hR : C.R v h L) : V C k e h L :=
  V.retC (L0 := []) (F0 := L) hk hrd (by rw [hD]; rfl) hr hl ht (i := i) hv hR
noncomputable def cfg (w0 : World) (f : FuncId) (fn : Func) (n : Nat) (R : Value → GH → List Ent → Prop) (hf : Tryd.prog.funcs[f]? = some fn) : Cfg := { P := Tryd.prog, S := tt, w0 := w0, f := f, fn := fn, n := n, R := R, ok := tt_ok, hfn := hf }
def RIs (x : Value) (h : GH) (L : List Ent) : Value → GH → List Ent → Prop := fun v h' L' => v = x ∧ h.le h' ∧ L.Sublist L'
def RRes (h : GH) (L : List Ent) (Q : Value → GH → Prop) : Value → GH → List Ent → Prop := fun v h' L' => h.le h' ∧ L.Sublist L' ∧ Q v h'
def shapeB (e : KE) : Bool :=
  if e.kind = 1 then e.oper == 0 && e.to == 0 && e.v == 0 && e.l.length == 0
  else if e.kind = 2 then e.oper == 0 && e.to == 0 && e.n == 0 && decide (0 ≤ e.v) && decide (e.v ≤ 255) && e.l.length == 0
  else if e.kind = 3 then e.oper == 0 && e.to == 0 && e.n == 0 && decide (0 ≤ e.v) && decide (e.v ≤ 255) && e.l.length == 1
  else if e.kind = 4 then decide (23 ≤ e.oper) && decide (e.oper ≤ 26) && e.to == 0 && e.n == 0 && e.v == 0 && e.l.length == 1
  else if e.kind = 5 then decide (1 ≤ e.oper) && decide (e.oper ≤ 22) && e.to == 0 && e.n == 0 && e.v == 0 && e.l.length == 2
  else if e.kind = 6 then e.oper == 0 && decide (1 ≤ e.to) && decide (e.to ≤ 3) && e.n == 0 && e.v == 0 && e.l.length == 1
  else false
theorem shape_k (e : KE) (h : e.kind ≠ 1) (h2 : e.kind ≠ 2) (h3 : e.kind ≠ 3) (h4 : e.kind ≠ 4) (h5 : e.kind ≠ 5) (h6 : e.kind ≠ 6) : shapeB e = false := by simp [shapeB, *]
theorem plain_does (w0 : World) (h : GH) (L : List Ent) (e : KE) (cs : List Value) (hr : RK h e cs) : Does Tryd.prog w0 61 [.agg ⟨cs⟩] h L (Is (.bool (shapeB e)) h L) := by
  obtain ⟨k, o, t, n, v, l⟩ := e
  simp only [RK] at hr
  obtain ⟨hz, a, cap, rfl, hcap, hl⟩ := hr
  unfold u8 i32 i64 at hz
  refine Does.is (Does.of_V (cfg w0 61 Tryd.f61 107 (RIs (.bool (shapeB ⟨k, o, t, n, v, l⟩)) h L) Tryd.func61) rfl rfl rfl rfl rfl rfl ?_)
  by_cases h1 : k = 1
  · subst h1; (repeat (first | refine V.step rfl ?_ | refine V.load rfl rfl rfl rfl rfl rfl ?_ | refine V.store rfl rfl rfl rfl rfl rfl rfl ?_ | refine V.condT rfl ?_ | refine V.condF rfl ?_)); refine V.box rfl rfl rfl rfl rfl rfl fun be => ?_; (repeat (first | refine V.step rfl ?_ | refine V.load rfl rfl rfl rfl rfl rfl ?_ | refine V.store rfl rfl rfl rfl rfl rfl rfl ?_ | refine V.condT rfl ?_ | refine V.condF rfl ?_)); refine V.alloc rfl rfl rfl rfl rfl rfl fun bx => ?_; (repeat (first | refine V.step rfl ?_ | refine V.load rfl rfl rfl rfl rfl rfl ?_ | refine V.store rfl rfl rfl rfl rfl rfl rfl ?_ | refine V.condT rfl ?_ | refine V.condF rfl ?_)); refine V.ret1 (L0 := []) rfl rfl rfl rfl rfl ⟨?_, GH.le_refl _, (by repeat (first | exact List.Sublist.refl _ | apply List.Sublist.cons))⟩; (refine bool_eq ?_; simp only [shapeB, KE.kind, KE.oper, KE.to, KE.n, KE.v, KE.l]; generalize l.length = len at *; (try simp at h9); simp; omega)
  by_cases h2 : k = 2
  · subst h2; (repeat (first | refine V.step rfl ?_ | refine V.load rfl rfl rfl rfl rfl rfl ?_ | refine V.store rfl rfl rfl rfl rfl rfl rfl ?_ | refine V.condT rfl ?_ | refine V.condF rfl ?_)); refine V.box rfl rfl rfl rfl rfl rfl fun be => ?_; (repeat (first | refine V.step rfl ?_ | refine V.load rfl rfl rfl rfl rfl rfl ?_ | refine V.store rfl rfl rfl rfl rfl rfl rfl ?_ | refine V.condT rfl ?_ | refine V.condF rfl ?_)); refine V.alloc rfl rfl rfl rfl rfl rfl fun bx => ?_; (repeat (first | refine V.step rfl ?_ | refine V.load rfl rfl rfl rfl rfl rfl ?_ | refine V.store rfl rfl rfl rfl rfl rfl rfl ?_ | refine V.condT rfl ?_ | refine V.condF rfl ?_)); refine V.ret1 (L0 := []) rfl rfl rfl rfl rfl ⟨?_, GH.le_refl _, (by repeat (first | exact List.Sublist.refl _ | apply List.Sublist.cons))⟩; (refine bool_eq ?_; simp only [shapeB, KE.kind, KE.oper, KE.to, KE.n, KE.v, KE.l]; generalize l.length = len at *; (try simp at h9); simp; omega)
  by_cases h3 : k = 3
  · subst h3; (repeat (first | refine V.step rfl ?_ | refine V.load rfl rfl rfl rfl rfl rfl ?_ | refine V.store rfl rfl rfl rfl rfl rfl rfl ?_ | refine V.condT rfl ?_ | refine V.condF rfl ?_)); refine V.box rfl rfl rfl rfl rfl rfl fun be => ?_; (repeat (first | refine V.step rfl ?_ | refine V.load rfl rfl rfl rfl rfl rfl ?_ | refine V.store rfl rfl rfl rfl rfl rfl rfl ?_ | refine V.condT rfl ?_ | refine V.condF rfl ?_)); refine V.alloc rfl rfl rfl rfl rfl rfl fun bx => ?_; (repeat (first | refine V.step rfl ?_ | refine V.load rfl rfl rfl rfl rfl rfl ?_ | refine V.store rfl rfl rfl rfl rfl rfl rfl ?_ | refine V.condT rfl ?_ | refine V.condF rfl ?_)); refine V.ret1 (L0 := []) rfl rfl rfl rfl rfl ⟨?_, GH.le_refl _, (by repeat (first | exact List.Sublist.refl _ | apply List.Sublist.cons))⟩; (refine bool_eq ?_; simp only [shapeB, KE.kind, KE.oper, KE.to, KE.n, KE.v, KE.l]; generalize l.length = len at *; (try simp at h9); simp; omega)
  by_cases h4 : k = 4
  · subst h4; (repeat (first | refine V.step rfl ?_ | refine V.load rfl rfl rfl rfl rfl rfl ?_ | refine V.store rfl rfl rfl rfl rfl rfl rfl ?_ | refine V.condT rfl ?_ | refine V.condF rfl ?_)); refine V.box rfl rfl rfl rfl rfl rfl fun be => ?_; (repeat (first | refine V.step rfl ?_ | refine V.load rfl rfl rfl rfl rfl rfl ?_ | refine V.store rfl rfl rfl rfl rfl rfl rfl ?_ | refine V.condT rfl ?_ | refine V.condF rfl ?_)); refine V.alloc rfl rfl rfl rfl rfl rfl fun bx => ?_; (repeat (first | refine V.step rfl ?_ | refine V.load rfl rfl rfl rfl rfl rfl ?_ | refine V.store rfl rfl rfl rfl rfl rfl rfl ?_ | refine V.condT rfl ?_ | refine V.condF rfl ?_))
    refine V.cond rfl (fun h9 => ?_) (fun h9 => ?_)
    · (repeat (first | refine V.step rfl ?_ | refine V.load rfl rfl rfl rfl rfl rfl ?_ | refine V.store rfl rfl rfl rfl rfl rfl rfl ?_ | refine V.condT rfl ?_ | refine V.condF rfl ?_)); refine V.ret1 (L0 := []) rfl rfl rfl rfl rfl ⟨?_, GH.le_refl _, (by repeat (first | exact List.Sublist.refl _ | apply List.Sublist.cons))⟩; (refine bool_eq ?_; simp only [shapeB, KE.kind, KE.oper, KE.to, KE.n, KE.v, KE.l]; generalize l.length = len at *; (try simp at h9); simp; omega)
    · (repeat (first | refine V.step rfl ?_ | refine V.load rfl rfl rfl rfl rfl rfl ?_ | refine V.store rfl rfl rfl rfl rfl rfl rfl ?_ | refine V.condT rfl ?_ | refine V.condF rfl ?_)); refine V.ret1 (L0 := []) rfl rfl rfl rfl rfl ⟨?_, GH.le_refl _, (by repeat (first | exact List.Sublist.refl _ | apply List.Sublist.cons))⟩; (refine bool_eq ?_; simp only [shapeB, KE.kind, KE.oper, KE.to, KE.n, KE.v, KE.l]; generalize l.length = len at *; (try simp at h9); simp; omega)
  by_cases h5 : k = 5
  · subst h5; (repeat (first | refine V.step rfl ?_ | refine V.load rfl rfl rfl rfl rfl rfl ?_ | refine V.store rfl rfl rfl rfl rfl rfl rfl ?_ | refine V.condT rfl ?_ | refine V.condF rfl ?_)); refine V.box rfl rfl rfl rfl rfl rfl fun be => ?_; (repeat (first | refine V.step rfl ?_ | refine V.load rfl rfl rfl rfl rfl rfl ?_ | refine V.store rfl rfl rfl rfl rfl rfl rfl ?_ | refine V.condT rfl ?_ | refine V.condF rfl ?_)); refine V.alloc rfl rfl rfl rfl rfl rfl fun bx => ?_; (repeat (first | refine V.step rfl ?_ | refine V.load rfl rfl rfl rfl rfl rfl ?_ | refine V.store rfl rfl rfl rfl rfl rfl rfl ?_ | refine V.condT rfl ?_ | refine V.condF rfl ?_))
    refine V.cond rfl (fun h9 => ?_) (fun h9 => ?_)
    · (repeat (first | refine V.step rfl ?_ | refine V.load rfl rfl rfl rfl rfl rfl ?_ | refine V.store rfl rfl rfl rfl rfl rfl rfl ?_ | refine V.condT rfl ?_ | refine V.condF rfl ?_)); refine V.ret1 (L0 := []) rfl rfl rfl rfl rfl ⟨?_, GH.le_refl _, (by repeat (first | exact List.Sublist.refl _ | apply List.Sublist.cons))⟩; (refine bool_eq ?_; simp only [shapeB, KE.kind, KE.oper, KE.to, KE.n, KE.v, KE.l]; generalize l.length = len at *; (try simp at h9); simp; omega)
    · (repeat (first | refine V.step rfl ?_ | refine V.load rfl rfl rfl rfl rfl rfl ?_ | refine V.store rfl rfl rfl rfl rfl rfl rfl ?_ | refine V.condT rfl ?_ | refine V.condF rfl ?_)); refine V.ret1 (L0 := []) rfl rfl rfl rfl rfl ⟨?_, GH.le_refl _, (by repeat (first | exact List.Sublist.refl _ | apply List.Sublist.cons))⟩; (refine bool_eq ?_; simp only [shapeB, KE.kind, KE.oper, KE.to, KE.n, KE.v, KE.l]; generalize l.length = len at *; (try simp at h9); simp; omega)
  by_cases h6 : k = 6
  · subst h6; (repeat (first | refine V.step rfl ?_ | refine V.load rfl rfl rfl rfl rfl rfl ?_ | refine V.store rfl rfl rfl rfl rfl rfl rfl ?_ | refine V.condT rfl ?_ | refine V.condF rfl ?_)); refine V.box rfl rfl rfl rfl rfl rfl fun be => ?_; (repeat (first | refine V.step rfl ?_ | refine V.load rfl rfl rfl rfl rfl rfl ?_ | refine V.store rfl rfl rfl rfl rfl rfl rfl ?_ | refine V.condT rfl ?_ | refine V.condF rfl ?_)); refine V.alloc rfl rfl rfl rfl rfl rfl fun bx => ?_; (repeat (first | refine V.step rfl ?_ | refine V.load rfl rfl rfl rfl rfl rfl ?_ | refine V.store rfl rfl rfl rfl rfl rfl rfl ?_ | refine V.condT rfl ?_ | refine V.condF rfl ?_))
    refine V.cond rfl (fun h9 => ?_) (fun h9 => ?_)
    · (repeat (first | refine V.step rfl ?_ | refine V.load rfl rfl rfl rfl rfl rfl ?_ | refine V.store rfl rfl rfl rfl rfl rfl rfl ?_ | refine V.condT rfl ?_ | refine V.condF rfl ?_)); refine V.ret1 (L0 := []) rfl rfl rfl rfl rfl ⟨?_, GH.le_refl _, (by repeat (first | exact List.Sublist.refl _ | apply List.Sublist.cons))⟩; (refine bool_eq ?_; simp only [shapeB, KE.kind, KE.oper, KE.to, KE.n, KE.v, KE.l]; generalize l.length = len at *; (try simp at h9); simp; omega)
    · (repeat (first | refine V.step rfl ?_ | refine V.load rfl rfl rfl rfl rfl rfl ?_ | refine V.store rfl rfl rfl rfl rfl rfl rfl ?_ | refine V.condT rfl ?_ | refine V.condF rfl ?_)); refine V.ret1 (L0 := []) rfl rfl rfl rfl rfl ⟨?_, GH.le_refl _, (by repeat (first | exact List.Sublist.refl _ | apply List.Sublist.cons))⟩; (refine bool_eq ?_; simp only [shapeB, KE.kind, KE.oper, KE.to, KE.n, KE.v, KE.l]; generalize l.length = len at *; (try simp at h9); simp; omega)
  (repeat (first | refine V.step rfl ?_ | refine V.load rfl rfl rfl rfl rfl rfl ?_ | refine V.store rfl rfl rfl rfl rfl rfl rfl ?_ | refine V.condT rfl ?_ | refine V.condF rfl ?_)); refine V.box rfl rfl rfl rfl rfl rfl fun be => ?_; (repeat (first | refine V.step rfl ?_ | refine V.load rfl rfl rfl rfl rfl rfl ?_ | refine V.store rfl rfl rfl rfl rfl rfl rfl ?_ | refine V.condT rfl ?_ | refine V.condF rfl ?_)); refine V.alloc rfl rfl rfl rfl rfl rfl fun bx => ?_; (repeat (first | refine V.step rfl ?_ | refine V.load rfl rfl rfl rfl rfl rfl ?_ | refine V.store rfl rfl rfl rfl rfl rfl rfl ?_ | refine V.condT rfl ?_ | refine V.condF rfl ?_))
  refine V.cond rfl (fun hc => (by simp at hc; omega)) (fun _ => ?_); (repeat (first | refine V.step rfl ?_ | refine V.load rfl rfl rfl rfl rfl rfl ?_ | refine V.store rfl rfl rfl rfl rfl rfl rfl ?_ | refine V.condT rfl ?_ | refine V.condF rfl ?_)); refine V.cond rfl (fun hc => (by simp at hc; omega)) (fun _ => ?_); (repeat (first | refine V.step rfl ?_ | refine V.load rfl rfl rfl rfl rfl rfl ?_ | refine V.store rfl rfl rfl rfl rfl rfl rfl ?_ | refine V.condT rfl ?_ | refine V.condF rfl ?_)); refine V.cond rfl (fun hc => (by simp at hc; omega)) (fun _ => ?_); (repeat (first | refine V.step rfl ?_ | refine V.load rfl rfl rfl rfl rfl rfl ?_ | refine V.store rfl rfl rfl rfl rfl rfl rfl ?_ | refine V.condT rfl ?_ | refine V.condF rfl ?_)); refine V.cond rfl (fun hc => (by simp at hc; omega)) (fun _ => ?_); (repeat (first | refine V.step rfl ?_ | refine V.load rfl rfl rfl rfl rfl rfl ?_ | refine V.store rfl rfl rfl rfl rfl rfl rfl ?_ | refine V.condT rfl ?_ | refine V.condF rfl ?_)); refine V.cond rfl (fun hc => (by simp at hc; omega)) (fun _ => ?_); (repeat (first | refine V.step rfl ?_ | refine V.load rfl rfl rfl rfl rfl rfl ?_ | refine V.store rfl rfl rfl rfl rfl rfl rfl ?_ | refine V.condT rfl ?_ | refine V.condF rfl ?_)); refine V.cond rfl (fun hc => (by simp at hc; omega)) (fun _ => ?_); (repeat (first | refine V.step rfl ?_ | refine V.load rfl rfl rfl rfl rfl rfl ?_ | refine V.store rfl rfl rfl rfl rfl rfl rfl ?_ | refine V.condT rfl ?_ | refine V.condF rfl ?_))
  refine V.ret1 (L0 := []) rfl rfl rfl rfl rfl ⟨?_, GH.le_refl _, (by repeat (first | exact List.Sublist.refl _ | apply List.Sublist.cons))⟩
  rw [shape_k ⟨k, o, t, n, v, l⟩ h1 h2 h3 h4 h5 h6]
end Go.Proofs.YtgmeahcclogfmaaDoor.S22
/-!
  Chapter 22: the small functions: shape, sure, top.
-/
namespace Go.Proofs.YtgmeahcclogfmaaDoor.S22
open Go Go.Tp
set_option linter.unusedVariables false
set_option linter.unusedSimpArgs false
set_option maxRecDepth 100000
set_option maxHeartbeats 4000000
def sureB (e : KE) : Bool := if e.kind = 1 then true else if e.kind = 2 then true else if e.kind = 4 then !(e.oper == 23) else if e.kind = 5 then decide (e.oper ≥ 6) else if e.kind = 6 then e.to == 1 else false
theorem top_does (w0 : World) (h : GH) (L : List Ent) (x y : Int) (b : Nat) (hr : atH h b 0 [.int .i64 y]) (c : Nat) : Does Tryd.prog w0 69 [.int .i64 x, .slice (some ⟨b, 0, none⟩) 1 c] h L (Is (.int .i64 (max x y)) h L) := by
  refine Does.is (Does.of_V (cfg w0 69 Tryd.f69 18 (RIs (.int .i64 (max x y)) h L) Tryd.func69) rfl rfl rfl rfl rfl rfl ?_)
  (repeat (first | refine V.step rfl ?_ | refine V.load rfl rfl rfl rfl rfl rfl ?_ | refine V.store rfl rfl rfl rfl rfl rfl rfl ?_ | refine V.condT rfl ?_ | refine V.condF rfl ?_))
  refine V.loop1 ?_
  (repeat (first | refine V.step rfl ?_ | refine V.load rfl rfl rfl rfl rfl rfl ?_ | refine V.store rfl rfl rfl rfl rfl rfl rfl ?_ | refine V.condT rfl ?_ | refine V.condF rfl ?_))
  refine V.index rfl rfl rfl rfl rfl rfl (by omega) (by decide) ?_
  refine V.loadH rfl rfl rfl rfl rfl (hr 0 _ rfl) rfl ?_
  (repeat (first | refine V.step rfl ?_ | refine V.load rfl rfl rfl rfl rfl rfl ?_ | refine V.store rfl rfl rfl rfl rfl rfl rfl ?_ | refine V.condT rfl ?_ | refine V.condF rfl ?_))
  refine V.again ?_
  (repeat (first | refine V.step rfl ?_ | refine V.load rfl rfl rfl rfl rfl rfl ?_ | refine V.store rfl rfl rfl rfl rfl rfl rfl ?_ | refine V.condT rfl ?_ | refine V.condF rfl ?_))
  refine V.ret1 (L0 := []) rfl rfl rfl rfl rfl ⟨?_, GH.le_refl _, (by repeat (first | exact List.Sublist.refl _ | apply List.Sublist.cons))⟩
  refine int64_eq ?_
  (try simp only []); split <;> omega
end Go.Proofs.YtgmeahcclogfmaaDoor.S22
/-!
  Chapter 22: what an expression needs; the clear text's walks.
-/
namespace Go.Proofs.YtgmeahcclogfmaaDoor.S22
open Go Go.Tp
set_option linter.unusedVariables false
set_option linter.unusedSimpArgs false
set_option maxRecDepth 100000
set_option maxHeartbeats 4000000
structure NR where
  safe : Bool
  regs : Int
  temps : Int
mutual
def sz : KE → Nat
  | ⟨_, _, _, _, _, l⟩ => 1 + szl l
def szl : List KE → Nat
  | [] => 0
  | e :: r => sz e + szl r
end
mutual
def ht : KE → Nat
  | ⟨_, _, _, _, _, l⟩ => 1 + htl l
def htl : List KE → Nat
  | [] => 0
  | e :: r => max (ht e) (htl r)
end
mutual
def fine : KE → Bool
  | ⟨k, o, t, n, v, l⟩ => shapeB ⟨k, o, t, n, v, l⟩ && finel l
def finel : List KE → Bool
  | [] => true
  | e :: r => fine e && finel r
end
def easyB (k o t : Int) : Bool := if k = 4 then (o == 25 || o == 26) else if k = 6 then t == 1 else false
def jn (k o t n v : Int) : List NR → NR
  | [] => ⟨sureB ⟨k, o, t, n, v, []⟩, 1, 0⟩
  | [a] => ⟨a.safe && sureB ⟨k, o, t, n, v, []⟩, if easyB k o t then a.regs else max a.regs 2, a.temps⟩
  | a :: b :: _ => ⟨a.safe && b.safe && sureB ⟨k, o, t, n, v, []⟩, if o ≠ 20 ∧ o ≠ 21 ∧ a.regs = b.regs then min (a.regs + 1) 3 else max a.regs b.regs,
      if o ≠ 20 ∧ o ≠ 21 ∧ a.regs = 3 ∧ b.regs = 3 then max b.temps (a.temps + 1) else max a.temps b.temps⟩
mutual
def ne : KE → NR
  | ⟨k, o, t, n, v, l⟩ => jn k o t n v (nel l)
def nel : List KE → List NR
  | [] => []
  | e :: r => ne e :: nel r
end
theorem fine_cases {e : KE} (h : fine e = true) : (∃ n, e = ⟨1, 0, 0, n, 0, []⟩) ∨ (∃ v, 0 ≤ v ∧ v ≤ 255 ∧ e = ⟨2, 0, 0, 0, v, []⟩) ∨ (∃ v a, 0 ≤ v ∧ v ≤ 255 ∧ fine a = true ∧ e = ⟨3, 0, 0, 0, v, [a]⟩) ∨
    (∃ o a, 23 ≤ o ∧ o ≤ 26 ∧ fine a = true ∧ e = ⟨4, o, 0, 0, 0, [a]⟩) ∨ (∃ o a b, 1 ≤ o ∧ o ≤ 22 ∧ fine a = true ∧ fine b = true ∧ e = ⟨5, o, 0, 0, 0, [a, b]⟩) ∨ (∃ t a, 1 ≤ t ∧ t ≤ 3 ∧ fine a = true ∧ e = ⟨6, 0, t, 0, 0, [a]⟩) := by
  obtain ⟨k, o, t, n, v, l⟩ := e
  simp only [fine, Bool.and_eq_true] at h
  obtain ⟨h1, h2⟩ := h
  simp only [shapeB, KE.kind, KE.oper, KE.to, KE.n, KE.v, KE.l] at h1
  have l0 : l.length = 0 → l = [] := fun h => List.length_eq_zero_iff.1 h
  have l1 : l.length = 1 → ∃ a, l = [a] := fun h => by
    match l, h with
    | [a], _ => exact ⟨a, rfl⟩
  have l2 : l.length = 2 → ∃ a b, l = [a, b] := fun h => by
    match l, h with
    | [a, b], _ => exact ⟨a, b, rfl⟩
  split at h1
  · subst_vars; simp at h1; obtain ⟨⟨⟨rfl, rfl⟩, rfl⟩, h⟩ := h1; rw [h]; exact .inl ⟨n, rfl⟩
  split at h1
  · subst_vars; simp at h1; obtain ⟨⟨⟨⟨⟨rfl, rfl⟩, rfl⟩, h3⟩, h4⟩, h⟩ := h1; rw [h]; exact .inr (.inl ⟨v, h3, h4, rfl⟩)
  split at h1
  · subst_vars; simp at h1; obtain ⟨⟨⟨⟨⟨rfl, rfl⟩, rfl⟩, h3⟩, h4⟩, h⟩ := h1; obtain ⟨a, rfl⟩ := l1 h; simp [finel] at h2; exact .inr (.inr (.inl ⟨v, a, h3, h4, h2, rfl⟩))
  split at h1
  · subst_vars; simp at h1; obtain ⟨⟨⟨⟨⟨h3, h4⟩, rfl⟩, rfl⟩, rfl⟩, h⟩ := h1; obtain ⟨a, rfl⟩ := l1 h; simp [finel] at h2; exact .inr (.inr (.inr (.inl ⟨o, a, h3, h4, h2, rfl⟩)))
  split at h1
  · subst_vars; simp at h1; obtain ⟨⟨⟨⟨⟨h3, h4⟩, rfl⟩, rfl⟩, rfl⟩, h⟩ := h1; obtain ⟨a, b, rfl⟩ := l2 h; simp [finel] at h2; exact .inr (.inr (.inr (.inr (.inl ⟨o, a, b, h3, h4, h2.1, h2.2, rfl⟩))))
  split at h1
  · subst_vars; simp at h1; obtain ⟨⟨⟨⟨⟨rfl, h3⟩, h4⟩, rfl⟩, rfl⟩, h⟩ := h1; obtain ⟨a, rfl⟩ := l1 h; simp [finel] at h2; exact .inr (.inr (.inr (.inr (.inr ⟨t, a, h3, h4, h2, rfl⟩))))
  · cases h1
theorem sz_pos (e : KE) : 1 ≤ sz e := by obtain ⟨k, o, t, n, v, l⟩ := e; simp only [sz]; omega
theorem ht_pos (e : KE) : 1 ≤ ht e := by obtain ⟨k, o, t, n, v, l⟩ := e; simp only [ht]; omega
theorem ne_bounds : ∀ (N : Nat) (e : KE), sz e ≤ N → fine e = true → 1 ≤ (ne e).regs ∧ (ne e).regs ≤ 3 ∧ 0 ≤ (ne e).temps ∧ (ne e).temps ≤ sz e
  | 0, e, h, _ => by have := sz_pos e; omega
  | N + 1, e, h, hf => by
    rcases fine_cases hf with ⟨n, rfl⟩ | ⟨v, h1, h2, rfl⟩ | ⟨v, a, h1, h2, h3, rfl⟩ | ⟨o, a, h1, h2, h3, rfl⟩ | ⟨o, a, b, h1, h2, h3, h4, rfl⟩ | ⟨t, a, h1, h2, h3, rfl⟩
    · simp [ne, nel, jn]
    · simp [ne, nel, jn]
    · simp only [sz, szl] at h
      have := ne_bounds N a (by omega) h3
      simp [ne, nel, jn, sz, szl, easyB]; omega
    · simp only [sz, szl] at h
      have := ne_bounds N a (by omega) h3
      simp only [ne, nel, jn, sz, szl]; refine ⟨?_, ?_, ?_, ?_⟩ <;> (try split) <;> omega
    · simp only [sz, szl] at h
      have := ne_bounds N a (by omega) h3
      have := ne_bounds N b (by omega) h4
      simp only [ne, nel, jn, sz, szl]; refine ⟨?_, ?_, ?_, ?_⟩ <;> (try split) <;> omega
    · simp only [sz, szl] at h
      have := ne_bounds N a (by omega) h3
      simp only [ne, nel, jn, sz, szl]; refine ⟨?_, ?_, ?_, ?_⟩ <;> (try split) <;> omega
theorem RK_p1 {h : GH} {k o t n v : Int} {a : KE} {cs : List Value} (hr : RK h ⟨k, o, t, n, v, [a]⟩ cs) :
    ∃ b off cap ca, cs = [.int .u8 k, .int .u8 o, .int .u8 t, .int .i32 n, .int .i64 v, .slice (some ⟨b, off, none⟩) 1 cap] ∧ atH h b off ca ∧ RK h a ca ∧ ca.length = 6 := by
  simp only [RK] at hr
  obtain ⟨_, a', cap, rfl, hcap, hl⟩ := hr
  obtain ⟨b, off, rfl, hq⟩ := hl (by simp)
  simp only [RKl] at hq
  obtain ⟨⟨ca, h1, h2⟩, _⟩ := hq
  exact ⟨b, off, cap, ca, rfl, h1, h2, h2.len⟩
theorem RK_p2 {h : GH} {k o t n v : Int} {a c : KE} {cs : List Value} (hr : RK h ⟨k, o, t, n, v, [a, c]⟩ cs) :
    ∃ b off cap ca cc, cs = [.int .u8 k, .int .u8 o, .int .u8 t, .int .i32 n, .int .i64 v, .slice (some ⟨b, off, none⟩) 2 cap] ∧ atH h b off ca ∧ RK h a ca ∧ ca.length = 6 ∧ atH h b (off + 6) cc ∧ RK h c cc ∧ cc.length = 6 := by
  simp only [RK] at hr
  obtain ⟨_, a', cap, rfl, hcap, hl⟩ := hr
  obtain ⟨b, off, rfl, hq⟩ := hl (by simp)
  simp only [RKl] at hq
  obtain ⟨⟨ca, h1, h2⟩, ⟨cc, h3, h4⟩, _⟩ := hq
  exact ⟨b, off, cap, ca, cc, rfl, h1, h2, h2.len, h3, h4, h4.len⟩
theorem RK_p0 {h : GH} {k o t n v : Int} {cs : List Value} (hr : RK h ⟨k, o, t, n, v, []⟩ cs) :
    ∃ a cap, cs = [.int .u8 k, .int .u8 o, .int .u8 t, .int .i32 n, .int .i64 v, .slice a 0 cap] := by
  simp only [RK] at hr
  obtain ⟨_, a', cap, rfl, hcap, hl⟩ := hr
  exact ⟨a', cap, rfl⟩
def spillB (o : Int) (a b : NR) : Bool := decide (o ≠ 20 ∧ o ≠ 21 ∧ a.regs = 3 ∧ b.regs = 3)
def fits (e : KE) (room deep : Int) : Prop := fine e = true ∧ (sz e : Int) ≤ room ∧ (ht e : Int) ≤ deep
instance (e : KE) (room deep : Int) : Decidable (fits e room deep) := by unfold fits; infer_instance
def lookI (e : KE) (room deep : Int) : Int := if fits e room deep then sz e else -1
theorem fits_not {e : KE} {r d : Int} (h : r < 1 ∨ d < 1 ∨ shapeB e = false) : ¬ fits e r d := by
  rintro ⟨h1, h2, h3⟩
  have := sz_pos e
  have := ht_pos e
  rcases h with h | h | h
  · omega
  · omega
  · obtain ⟨k, o, t, n, v, l⟩ := e
    simp only [fine, h, Bool.false_and] at h1
    cases h1
theorem shape_cases {e : KE} (h : shapeB e = true) : (∃ k o t n v, e = ⟨k, o, t, n, v, []⟩) ∨ (∃ k o t n v a, e = ⟨k, o, t, n, v, [a]⟩) ∨ (∃ k o t n v a b, e = ⟨k, o, t, n, v, [a, b]⟩) := by
  obtain ⟨k, o, t, n, v, l⟩ := e
  match l with
  | [] => exact .inl ⟨k, o, t, n, v, rfl⟩
  | [a] => exact .inr (.inl ⟨k, o, t, n, v, a, rfl⟩)
  | [a, b] => exact .inr (.inr ⟨k, o, t, n, v, a, b, rfl⟩)
  | a :: b :: c :: r =>
    simp only [shapeB, KE.kind, KE.oper, KE.to, KE.n, KE.v, KE.l, List.length_cons] at h
    exfalso
    revert h
    (repeat' split) <;> simp <;> omega
theorem fits1 {k o t n v : Int} {a : KE} {room deep : Int} (hs : shapeB ⟨k, o, t, n, v, [a]⟩ = true) : fits ⟨k, o, t, n, v, [a]⟩ room deep ↔ fits a (room - 1) (deep - 1) := by
  simp only [fits, fine, finel, hs, sz, szl, ht, htl, Bool.true_and, Bool.and_true]
  constructor
  · rintro ⟨h1, h2, h3⟩; exact ⟨h1, by omega, by omega⟩
  · rintro ⟨h1, h2, h3⟩; exact ⟨h1, by omega, by omega⟩
theorem fits2 {k o t n v : Int} {a b : KE} {room deep : Int} (hs : shapeB ⟨k, o, t, n, v, [a, b]⟩ = true) : fits ⟨k, o, t, n, v, [a, b]⟩ room deep ↔ fits a (room - 1) (deep - 1) ∧ fits b (room - (1 + sz a)) (deep - 1) := by
  simp only [fits, fine, finel, hs, sz, szl, ht, htl, Bool.true_and, Bool.and_true, Bool.and_eq_true]
  have := sz_pos b
  constructor
  · rintro ⟨h1, h2, h3⟩; exact ⟨⟨h1.1, by omega, by omega⟩, ⟨h1.2, by omega, by omega⟩⟩
  · rintro ⟨⟨h1, h2, h3⟩, ⟨h4, h5, h6⟩⟩; exact ⟨⟨h1, h4⟩, by omega, by omega⟩
end Go.Proofs.YtgmeahcclogfmaaDoor.S22
