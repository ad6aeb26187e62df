/-
  Layer 14: plain laws: literals are valid; what has a value keeps it in an environment that goes on.
-/
import Derived.Test.YtlnbmocgnkjlfaaGreatQ14m

namespace Go.Proofs.YtlnbmocgnkjlfaaGreat
open Go Go.Tp
set_option linter.unusedVariables false
set_option linter.unusedSimpArgs false
set_option maxRecDepth 100000
set_option maxHeartbeats 4000000

theorem applyC_bool {o a b v : Int} (ho : boolO o = true) (h : applyC o a b = some v) : 0 ≤ v ∧ v ≤ 1 := by
  have ht : ∀ c, 0 ≤ truthI c ∧ truthI c ≤ 1 := fun c => by cases c <;> decide
  simp only [boolO, decide_eq_true_eq] at ho
  have hc : o = 14 ∨ o = 15 ∨ o = 16 ∨ o = 17 ∨ o = 18 ∨ o = 19 ∨ o = 20 ∨ o = 21 ∨ o = 22 ∨ o = 26 := by omega
  rcases hc with rfl | rfl | rfl | rfl | rfl | rfl | rfl | rfl | rfl | rfl
  all_goals simp [applyC] at h
  all_goals first | (rw [← h]; exact ht _) | (obtain ⟨_, h⟩ := h; rw [← h]; exact ht _)
theorem pairV_some {r : Option Int} (h : (pairV r).2 = true) : r = some (pairV r).1 := by
  cases r with
  | none => cases h
  | some x => rfl
theorem opV_some {o : Int} : ∀ {l : List (Int × Bool)}, (opV o l).2 = true → ∃ a b, applyC o a b = some (opV o l).1
  | [], h => ⟨0, 0, pairV_some h⟩
  | [a], h => by
    have e : opV o [a] = if a.2 then pairV (applyC o a.1 0) else (0, false) := rfl
    rw [e] at h ⊢
    split at h
    · rename_i ha; rw [if_pos ha]; exact ⟨_, _, pairV_some h⟩
    · cases h
  | a :: b :: r, h => by
    have e : opV o (a :: b :: r) = if a.2 then (if b.2 then pairV (applyC o a.1 b.1) else (0, false)) else (0, false) := rfl
    rw [e] at h ⊢
    split at h
    · rename_i ha
      split at h
      · rename_i hb; rw [if_pos ha, if_pos hb]; exact ⟨_, _, pairV_some h⟩
      · cases h
    · cases h
theorem conv_some {t : Int} {x : Int × Bool} (h : (conv14 t x).2 = true) : conv14 t x = x ∧ x.2 = true ∧ (t ≠ 1 → 0 ≤ x.1 ∧ x.1 ≤ (if t = 3 then 1 else 255)) := by
  unfold conv14 at h ⊢
  by_cases h1 : t = 1
  · rw [if_pos h1] at h ⊢; exact ⟨rfl, h, fun hn => (hn h1).elim⟩
  · rw [if_neg h1] at h ⊢
    by_cases h2 : x.2 = false ∨ x.1 < 0 ∨ x.1 > (if t = 3 then 1 else 255)
    · rw [if_pos h2] at h; cases h
    · rw [if_neg h2] at h ⊢
      refine ⟨rfl, h, fun _ => ?_⟩
      generalize (if t = 3 then (1 : Int) else 255) = m at h2 ⊢
      have h3 := not_or.1 h2
      have h4 := not_or.1 h3.2
      omega
theorem conv_in {t : Int} {x : Int × Bool} (h : (conv14 t x).2 = true) : (kindOf t = 2 → 0 ≤ (conv14 t x).1 ∧ (conv14 t x).1 ≤ 255) ∧ (kindOf t = 3 → 0 ≤ (conv14 t x).1 ∧ (conv14 t x).1 ≤ 1) := by
  obtain ⟨h1, h2, h3⟩ := conv_some h
  rw [h1]
  constructor
  · intro hk
    have : t = 2 := by unfold kindOf at hk; split at hk <;> (try split at hk) <;> omega
    subst this
    simpa using h3 (by decide)
  · intro hk
    have : t = 3 := by unfold kindOf at hk; split at hk <;> (try split at hk) <;> omega
    subst this
    simpa using h3 (by decide)
theorem partsM_lit {k v : Int} (h1 : 1 ≤ k ∧ k ≤ 3) (h2 : k = 2 → 0 ≤ v ∧ v ≤ 255) (h3 : k = 3 → 0 ≤ v ∧ v ≤ 1) : partsM k 0 0 v [] = (0, true) := by
  have hc : k = 1 ∨ k = 2 ∨ k = 3 := by omega
  rcases hc with rfl | rfl | rfl
  · simp [partsM]
  · simp [partsM, h2 rfl]
  · simp [partsM, h3 rfl]
theorem litX_valid (env : List SP) (vals : List (Int × Bool)) (e : XE) (h2 : litK env e = 2 → 0 ≤ (valX env vals e).1 ∧ (valX env vals e).1 ≤ 255) (h3 : litK env e = 3 → 0 ≤ (valX env vals e).1 ∧ (valX env vals e).1 ≤ 1) : validX (litX env vals e) := by
  refine ⟨?_, by rw [litX_sz]; decide, by rw [litX_ht]; decide⟩
  rw [fineX_eq]
  have : shapeX (litX env vals e) = true := by
    unfold shapeX litX
    rw [show partsM _ _ _ _ _ = _ from partsM_lit (litK_in env e) h2 h3]; rfl
  rw [this]; rfl
/-- what has a value is folded to a literal, unless it is a name -/
theorem fold_lit (env : List SP) (vals : List (Int × Bool)) (e : XE) (hs : shapeX e = true) (hv : (valX env vals e).2 = true) (hn : e.kind ≠ 4) : litOk env vals e := by
  refine ⟨hv, ?_⟩
  have hp : (partsM e.kind e.oper e.to e.n e.s).2 = true := by
    unfold shapeX at hs; rw [Bool.and_eq_true] at hs; exact hs.1
  have hk := shape_k e hs
  have k0 : kindOf 0 = 1 := by decide
  rw [valX_eq] at hv
  have hto : e.kind = 1 ∨ e.kind = 5 ∨ e.kind = 6 ∨ e.kind = 7 ∨ e.kind = 9 → e.to = 0 := fun h => by
    unfold partsM at hp
    repeat' split at hp
    all_goals first | omega | (cases hp; done) | (simp at hp; omega)
  by_cases h2 : e.kind = 2
  · have hl : litK env e = 2 := by rw [litK, if_pos (.inl h2), h2]
    have hx : valX env vals e = (e.n, true) := by rw [valX_eq, if_pos (by omega)]
    refine litX_valid _ _ _ (fun _ => ?_) (fun h => by omega)
    rw [hx]; unfold partsM at hp; simp only [h2] at hp
    rw [if_neg (by decide), if_pos trivial] at hp
    split at hp
    · assumption
    · cases hp
  by_cases h3 : e.kind = 3
  · have hl : litK env e = 3 := by rw [litK, if_pos (.inr h3), h3]
    have hx : valX env vals e = (e.n, true) := by rw [valX_eq, if_pos (by omega)]
    refine litX_valid _ _ _ (fun h => by omega) (fun _ => ?_)
    rw [hx]; unfold partsM at hp; simp only [h3] at hp
    rw [if_neg (by decide), if_neg (by decide), if_pos trivial] at hp
    split at hp
    · assumption
    · cases hp
  by_cases h67 : (e.kind = 6 ∨ e.kind = 7) ∧ boolO e.oper = true
  · have hl : litK env e = 3 := by rw [litK, if_neg (by omega), if_neg hn, if_pos h67]
    have hx : valX env vals e = opV e.oper (valXl env vals e.l) := by rw [valX_eq, if_neg (by omega), if_neg hn, if_neg (by omega), if_neg (by omega), if_neg (by omega)]
    rw [if_neg (by omega), if_neg hn, if_neg (by omega), if_neg (by omega), if_neg (by omega)] at hv
    obtain ⟨a, b, hab⟩ := opV_some hv
    have := applyC_bool h67.2 hab
    exact litX_valid _ _ _ (fun h => by omega) (fun _ => by rw [hx]; exact this)
  have hl : litK env e = kindOf e.to := by rw [litK, if_neg (by omega), if_neg hn, if_neg h67]
  by_cases h8 : e.kind = 8
  · have hx : valX env vals e = conv14 e.to ((valXl env vals e.l).headD (0, false)) := by rw [valX_eq, if_neg (by omega), if_neg hn, if_neg (by omega), if_neg (by omega), if_pos h8]
    rw [if_neg (by omega), if_neg hn, if_neg (by omega), if_neg (by omega), if_pos h8] at hv
    have := conv_in hv
    rw [← hl] at this
    exact litX_valid _ _ _ (fun h => by rw [hx]; exact this.1 h) (fun h => by rw [hx]; exact this.2 h)
  · have := hto (by omega)
    rw [this, k0] at hl
    exact litX_valid _ _ _ (fun h => by omega) (fun h => by omega)

/-! ### an environment that goes on -/
theorem findB_pre (env more : List SP) (s : List UInt8) : ∀ n, n ≤ env.length → findB (env ++ more) s n = findB env s n
  | 0, _ => rfl
  | n + 1, h => by rw [findB, findB, List.getElem?_append_left (by omega), findB_pre env more s n (by omega)]
theorem findB_take (env : List SP) (s : List UInt8) (m : Nat) : ∀ n, n ≤ m → m ≤ env.length → findB (env.take m) s n = findB env s n := fun n h hm => by
  have := findB_pre (env.take m) (env.drop m) s n (by rw [List.length_take]; omega)
  rw [List.take_append_drop] at this
  exact this.symm
theorem findB_skip (env more : List SP) (s : List UInt8) (hs : ∀ x, x ∈ more → x.names.any (fun y => s == y) = false) : ∀ n, n ≤ more.length → findB (env ++ more) s (env.length + n) = findB env s env.length
  | 0, _ => by rw [Nat.add_zero]; exact findB_pre env more s _ (Nat.le_refl _)
  | n + 1, h => by
    rw [← Nat.add_assoc, findB, List.getElem?_append_right (by omega), Nat.add_sub_cancel_left, findB_skip env more s hs n (by omega)]
    obtain ⟨x, hx⟩ := at_exN (l := more) (i := n) (by omega)
    rw [hx]
    simp only [hs x (List.mem_of_getElem? hx), Bool.false_eq_true, if_false]
theorem findB_has (env : List SP) (s : List UInt8) : ∀ n, 0 ≤ findB env s n → ∃ x, x ∈ env ∧ x.names.any (fun y => s == y) = true
  | 0, h => by rw [findB] at h; omega
  | n + 1, h => by
    rw [findB] at h
    split at h
    · rename_i x hx
      split at h
      · rename_i hc; exact ⟨x, List.mem_of_getElem? hx, hc⟩
      · exact findB_has env s n h
    · exact findB_has env s n h
theorem stepV_pre (env more : List SP) (i : Nat) (vs : List (Int × Bool)) (h : i < env.length) : stepV (env ++ more) i vs = stepV env i vs := by
  unfold stepV
  rw [List.getElem?_append_left h, List.take_append_of_le_length (by omega)]
theorem valsP_pre (env more : List SP) : ∀ n, n ≤ env.length → valsP (env ++ more) n = valsP env n
  | 0, _ => rfl
  | n + 1, h => by rw [valsP, valsP, valsP_pre env more n (by omega), stepV_pre env more n _ (by omega)]
theorem valsP_at (env : List SP) (m : Nat) : ∀ n i, i < n → (valsP env n)[i]? = some (stepV env i (valsP env i))
  | 0, _, h => by omega
  | n + 1, i, h => by
    rw [valsP]
    by_cases hi : i < n
    · rw [List.getElem?_append_left (by rw [valsP_len]; exact hi)]; exact valsP_at env m n i hi
    · have : i = n := by omega
      subst this
      rw [List.getElem?_append_right (by rw [valsP_len]; omega), valsP_len, Nat.sub_self]; rfl
def ExtV : List (Int × Bool) → List (Int × Bool) → Prop
  | [], [] => True
  | a :: r, b :: s => (a.2 = true → b = a) ∧ ExtV r s
  | [], _ :: _ => False
  | _ :: _, [] => False
theorem ext_head {l m : List (Int × Bool)} (h : ExtV l m) (hh : (l.headD (0, false)).2 = true) : m.headD (0, false) = l.headD (0, false) := by
  cases l with
  | nil => cases hh
  | cons a r => cases m with
    | nil => exact h.elim
    | cons b s => exact h.1 hh
theorem ext_op {o : Int} {l m : List (Int × Bool)} (h : ExtV l m) (hh : (opV o l).2 = true) : opV o m = opV o l := by
  match l, m, h with
  | [], [], _ => rfl
  | [a], [b], h =>
    have e : opV o [a] = if a.2 then pairV (applyC o a.1 0) else (0, false) := rfl
    rw [e] at hh
    split at hh
    · rename_i ha; rw [h.1 ha]
    · cases hh
  | a :: b :: r, c :: d :: s, h =>
    have e : opV o (a :: b :: r) = if a.2 then (if b.2 then pairV (applyC o a.1 b.1) else (0, false)) else (0, false) := rfl
    have e2 : opV o (c :: d :: s) = if c.2 then (if d.2 then pairV (applyC o c.1 d.1) else (0, false)) else (0, false) := rfl
    rw [e] at hh
    split at hh
    · rename_i ha
      split at hh
      · rename_i hb; rw [e, e2, h.1 ha, h.2.1 hb]
      · cases hh
    · cases hh
  | [_], _ :: _ :: _, h => exact h.2.elim
  | _ :: _ :: _, [_], h => exact h.2.elim
theorem find_on (env more : List SP) (hm : ∀ (x y : SP) (s : List UInt8), x ∈ env → y ∈ more → x.names.any (fun z => s == z) = true → y.names.any (fun z => s == z) = false) (s : List UInt8) (h : 0 ≤ findB env s env.length) : findB (env ++ more) s (env ++ more).length = findB env s env.length := by
  obtain ⟨x, hx, hs⟩ := findB_has env s _ h
  rw [List.length_append]
  exact findB_skip env more s (fun y hy => hm x y s hx hy hs) _ (Nat.le_refl _)
mutual
theorem valX_on (env more : List SP) (vals vals' : List (Int × Bool)) (hl : vals.length = env.length) (hv : ∀ i, i < env.length → vals'[i]? = vals[i]?) (hm : ∀ (x y : SP) (s : List UInt8), x ∈ env → y ∈ more → x.names.any (fun z => s == z) = true → y.names.any (fun z => s == z) = false) : ∀ e : XE, (valX env vals e).2 = true → valX (env ++ more) vals' e = valX env vals e
  | ⟨k, o, t, n, s, l⟩, h => by
    have hlt := findB_lt env s env.length
    have ih := valXl_on env more vals vals' hl hv hm l
    rw [valX] at h
    rw [valX, valX]
    split
    · rfl
    · rename_i h1
      rw [if_neg h1] at h
      split
      · rename_i h4
        rw [if_pos h4] at h
        split at h
        · rename_i hp
          rw [find_on env more hm s hp, if_pos hp, if_pos hp, hv _ (by omega)]
        · cases h
      · rename_i h4
        rw [if_neg h4] at h
        split
        · rename_i h9
          rw [if_pos h9] at h
          by_cases hp : 0 ≤ findB env s env.length
          · rw [find_on env more hm s hp, List.getElem?_append_left (by omega)]
          · exfalso
            split at h
            · rw [if_neg hp] at h; cases h
            · cases h
        · rename_i h9
          rw [if_neg h9] at h
          split
          · rfl
          · rename_i h5
            rw [if_neg h5] at h
            split
            · rename_i h8
              rw [if_pos h8] at h
              have hh : ((valXl env vals l).headD (0, false)).2 = true := (conv_some h).2.1
              rw [ext_head ih hh]
            · rename_i h8
              rw [if_neg h8] at h
              exact ext_op ih h
theorem valXl_on (env more : List SP) (vals vals' : List (Int × Bool)) (hl : vals.length = env.length) (hv : ∀ i, i < env.length → vals'[i]? = vals[i]?) (hm : ∀ (x y : SP) (s : List UInt8), x ∈ env → y ∈ more → x.names.any (fun z => s == z) = true → y.names.any (fun z => s == z) = false) : ∀ l : List XE, ExtV (valXl env vals l) (valXl (env ++ more) vals' l)
  | [] => by rw [valXl, valXl]; trivial
  | x :: l => by rw [valXl, valXl]; exact ⟨valX_on env more vals vals' hl hv hm x, valXl_on env more vals vals' hl hv hm l⟩
end
end Go.Proofs.YtlnbmocgnkjlfaaGreat
