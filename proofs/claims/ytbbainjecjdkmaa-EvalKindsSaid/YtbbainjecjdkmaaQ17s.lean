/-
  Chapter 17: EvalKinds.
-/
import Derived.Test.YtbbainjecjdkmaaQ16b

namespace Go.Proofs.Ytbbainjecjdkmaa
open Go Go.Tp
set_option linter.unusedVariables false
set_option linter.unusedSimpArgs false
set_option maxRecDepth 100000
set_option maxHeartbeats 4000000

theorem Fits_p (l : List KV) (e : KE) (hw : wfK e) (kind : Int) : Pure Try.prog gs0 33 [varsA l, encK e, AU8 kind] (AB (decide (valid e) && fitsM l e kind)) := by
  have hv := rvalid_p e hw
  rw [encK_eq] at hv ⊢
  by_cases h : valid e
  · have hf := fits16_p l _ e kind (Nat.le_refl _) h.1
    rw [encK_eq] at hf
    refine Pure.of (S := tt) (fn := Try.f33) (n := 15) tt_ok Try.func33 rfl rfl rfl rfl fun w0 h0 F hgs => ?_
    (repeat first|refine A.s rfl ?_|refine A.r rfl rfl ?_|refine A.w rfl rfl ?_|refine A.p rfl ?_|refine A.b rfl fun bx=>?_|refine A.t rfl fun bl=>?_); refine A.c rfl hv .refl ?_; (repeat first|refine A.s rfl ?_|refine A.r rfl rfl ?_|refine A.w rfl rfl ?_|refine A.p rfl ?_|refine A.b rfl fun bx=>?_|refine A.t rfl fun bl=>?_)
    refine A.valE 9 rfl (x' := AB true) (ab_eq (by simp [h])) ?_
    (repeat first|refine A.s rfl ?_|refine A.r rfl rfl ?_|refine A.w rfl rfl ?_|refine A.p rfl ?_|refine A.b rfl fun bx=>?_|refine A.t rfl fun bl=>?_); refine A.c rfl hf .refl ?_; (repeat first|refine A.s rfl ?_|refine A.r rfl rfl ?_|refine A.w rfl rfl ?_|refine A.p rfl ?_|refine A.b rfl fun bx=>?_|refine A.t rfl fun bl=>?_); refine A.ret1 (Λ' := []) rfl rfl rfl (List.nil_sublist _) ⟨?_, rfl⟩; refine Sb.eq (ab_eq ?_); simp [h]
  · refine Pure.of (S := tt) (fn := Try.f33) (n := 15) tt_ok Try.func33 rfl rfl rfl rfl fun w0 h0 F hgs => ?_
    (repeat first|refine A.s rfl ?_|refine A.r rfl rfl ?_|refine A.w rfl rfl ?_|refine A.p rfl ?_|refine A.b rfl fun bx=>?_|refine A.t rfl fun bl=>?_); refine A.c rfl hv .refl ?_; (repeat first|refine A.s rfl ?_|refine A.r rfl rfl ?_|refine A.w rfl rfl ?_|refine A.p rfl ?_|refine A.b rfl fun bx=>?_|refine A.t rfl fun bl=>?_)
    refine A.valE 9 rfl (x' := AB false) (ab_eq (by simp [h])) ?_
    (repeat first|refine A.s rfl ?_|refine A.r rfl rfl ?_|refine A.w rfl rfl ?_|refine A.p rfl ?_|refine A.b rfl fun bx=>?_|refine A.t rfl fun bl=>?_); refine A.ret1 (Λ' := []) rfl rfl rfl (List.nil_sublist _) ⟨?_, rfl⟩; refine Sb.eq (ab_eq ?_); simp [h]

/-! ### the plain law -/
def kindOk (kind x : Int) : Prop := (kind = 2 → 0 ≤ x ∧ x ≤ 255) ∧ (kind = 3 → x = 0 ∨ x = 1)
theorem kindOk_fits {k x : Int} (h : fitsB k x = true) : kindOk k x := by
  unfold fitsB at h
  constructor
  · intro hk; subst hk; simp at h; exact h
  · intro hk; subst hk; simp at h; exact h
theorem kindOk_truth (k : Int) (b : Bool) (hk : k = 3) : kindOk k (truthI b) := ⟨fun h => by omega, fun _ => by cases b <;> simp [truthI]⟩
theorem kindOk_one (x : Int) : kindOk 1 x := ⟨fun h => by omega, fun h => by omega⟩
/-- the store's elements are such of their kinds -/
def goodS (l : List KV) (s : List (List Int)) : Prop := ∀ (i : Nat) (v : KV) (r : List Int), l[i]? = some v → s[i]? = some r → ∀ x, x ∈ r → fitsB v.kind x = true
theorem atM_kind {l : List KV} {s : List (List Int)} (hg : goodS l s) {v i x : Int} {y : KV} (hy : l[v.toNat]? = some y) (hx : atM s v i = some x) : fitsB y.kind x = true := by
  unfold atM at hx
  split at hx
  · cases hx
  · cases hr : s[v.toNat]? with
    | none => rw [hr] at hx; cases hx
    | some r => rw [hr] at hx; exact hg _ y r hy hr x (List.mem_of_getElem? hx)
theorem fits_value {l : List KV} {s : List (List Int)} (hg : goodS l s) {e : KE} (hf : fine e = true) {kind x : Int} (hk : fitsM l e kind = true) (hx : valM s e = some x) : kindOk kind x := by
  rcases fine_cases hf with ⟨n, rfl⟩ | ⟨v, h1, h2, rfl⟩ | ⟨v, a, h1, h2, h3, rfl⟩ | ⟨o, a, h1, h2, h3, rfl⟩ | ⟨o, a, b, h1, h2, h3, h4, rfl⟩ | ⟨t, a, h1, h2, h3, rfl⟩
  · simp [fitsM, fitsL, fitC] at hk
    simp [valM, valMl, combM] at hx
    subst hx
    exact ⟨fun h => by omega, fun h => by omega⟩
  · simp only [fitsM, fitsL, fitC] at hk
    simp [valM, valMl, combM] at hx
    rw [if_neg (by decide), if_pos trivial] at hk
    split at hk
    · rename_i y hy
      simp at hk
      rw [← hk.2]; exact kindOk_fits (atM_kind hg hy hx)
    · cases hk
  · simp only [fitsM, fitsL, fitC] at hk
    rw [if_neg (by decide), if_neg (by decide), if_pos trivial] at hk
    split at hk
    · rename_i y _ _ hy _
      simp at hk
      simp only [valM, valMl, combM] at hx
      cases ha : valM s a with
      | none => rw [ha] at hx; simp at hx
      | some z =>
        rw [ha] at hx; simp at hx
        rw [← hk.1.2]; exact kindOk_fits (atM_kind hg hy hx)
    · cases hk
  · simp only [fitsM, fitsL, fitC] at hk
    rw [if_neg (by decide), if_neg (by decide), if_neg (by decide)] at hk
    simp at hk
    simp only [valM, valMl, combM] at hx
    cases ha : valM s a with
    | none => rw [ha] at hx; simp at hx
    | some z =>
      rw [ha] at hx; simp at hx
      split at hk
      · rename_i ho
        subst ho
        simp [applyC] at hx
        rw [← hx.2]; exact kindOk_truth _ _ hk.1
      · rw [hk.1]; exact kindOk_one x
  · simp only [fitsM, fitsL, fitC] at hk
    rw [if_neg (by decide), if_neg (by decide), if_neg (by decide)] at hk
    simp only [valM, valMl, combM] at hx
    cases ha : valM s a with
    | none => rw [ha] at hx; simp at hx
    | some z =>
      rw [ha] at hx; simp at hx
      simp at hk
      split at hk
      · rw [hk.1]; exact kindOk_one x
      · rename_i ho
        have hk3 : kind = 3 := by
          by_cases h : kind = 3
          · exact h
          · simp [h] at hk
        subst hk3
        refine ⟨fun h => by omega, fun _ => ?_⟩
        split at hx
        · rename_i hsh
          simp at hx
          subst hx
          simp [isSh] at hsh; omega
        · cases hb : valM s b with
          | none => rw [hb] at hx; simp at hx
          | some w =>
            rw [hb] at hx; simp at hx
            have ho' : o = 14 ∨ o = 15 ∨ o = 16 ∨ o = 17 ∨ o = 18 ∨ o = 19 ∨ o = 20 ∨ o = 21 ∨ o = 22 := by omega
            have ht : ∀ c : Bool, truthI c = 0 ∨ truthI c = 1 := fun c => by cases c <;> simp [truthI]
            rcases ho' with rfl | rfl | rfl | rfl | rfl | rfl | rfl | rfl | rfl <;> simp [applyC] at hx
            · rw [← hx]; exact ht _
            · rw [← hx]; exact ht _
            · rw [← hx]; exact ht _
            · rw [← hx]; exact ht _
            · rw [← hx]; exact ht _
            · rw [← hx]; exact ht _
            · rw [← hx.2]; exact ht _
            · rw [← hx.2]; exact ht _
            · rw [← hx]; exact ht _
  · simp only [fitsM, fitsL, fitC] at hk
    rw [if_neg (by decide), if_neg (by decide), if_neg (by decide)] at hk
    simp at hk
    simp only [valM, valMl, combM] at hx
    cases ha : valM s a with
    | none => rw [ha] at hx; simp at hx
    | some z =>
      rw [ha] at hx; simp at hx
      rw [conv_fits] at hx
      split at hx
      · rename_i hz
        injection hx with hx
        subst hx
        rw [← hk.1]; exact kindOk_fits hz
      · cases hx
theorem band_low (x m : Int) (h0 : 0 ≤ m) (h1 : m ≤ 255) : 0 ≤ band x m ∧ band x m ≤ m := by
  have e : (BitVec.ofInt 32 m).toNat = m.toNat := by
    rw [BitVec.toNat_ofInt]; omega
  have hle : (BitVec.ofInt 32 x &&& BitVec.ofInt 32 m).toNat ≤ m.toNat := by
    rw [BitVec.toNat_and, e]; exact Nat.and_le_right
  have key : band x m = IntKind.i32.wrap ((BitVec.ofInt 32 x &&& BitVec.ofInt 32 m).toNat : Nat) := rfl
  rw [key]
  generalize (BitVec.ofInt 32 x &&& BitVec.ofInt 32 m).toNat = n at hle
  rw [wr32 _ (by omega)]
  omega
theorem may_good {l : List KV} {s : List (List Int)} (hs : soundsB l = true) (hlen : s.length = l.length) (hr : ∀ (i : Nat) (v : KV) (r : List Int), l[i]? = some v → s[i]? = some r → (r.length : Int) = longI v) (hg : goodS l s) : mayB l s = true := by
  simp only [mayB, hs, hlen, decide_true, Bool.true_and, allEq, List.all_eq_true, List.mem_range]
  intro i hi
  have h2 : i < s.length := by omega
  rw [List.getElem?_eq_getElem hi, List.getElem?_eq_getElem h2]
  simp only [mayRow, Bool.and_eq_true, beq_iff_eq]
  refine ⟨hr i _ _ (List.getElem?_eq_getElem hi) (List.getElem?_eq_getElem h2), ?_⟩
  simp only [Bool.not_eq_true', List.any_eq_false]
  intro x hx
  rw [hg i _ _ (List.getElem?_eq_getElem hi) (List.getElem?_eq_getElem h2) x hx]; simp
theorem good_set {l : List KV} {hs : List (Value × List Int)} (hg : goodS l (hs.map Prod.snd)) {i : Nat} {z : Value} {r : List Int} {v : KV} (hv : l[i]? = some v) (hr : ∀ x, x ∈ r → fitsB v.kind x = true) : goodS l ((hs.set i (z, r)).map Prod.snd) := by
  intro j w q hw hq x hx
  rw [List.map_set, List.getElem?_set] at hq
  split at hq
  · rename_i hij
    subst hij
    split at hq
    · injection hq with hq
      subst hq
      rw [hv] at hw; injection hw with hw; subst hw
      exact hr x hx
    · cases hq
  · exact hg j w q hw hq x hx
theorem wfS_set1 {hs : List (Value × List Int)} (hg : wfS (hs.map Prod.snd)) {i : Nat} {z : Value} {r : List Int} (hr : ∀ x, x ∈ r → i32 x) : wfS ((hs.set i (z, r)).map Prod.snd) := by
  intro q hq x hx
  rw [List.map_set] at hq
  rcases List.mem_or_eq_of_mem_set hq with hq | hq
  · exact hg q hq x hx
  · exact hr x (by rw [hq] at hx; exact hx)
theorem may_lent (l : List KV) (hs : List (Value × List Int)) (z : Value) (n : Nat) (hb : l.length ≤ 281474976710656) (hsh : short (hs.map Prod.snd)) :
    Fun Try.prog gs0 17 [kernA l, .ms z 1 n] [.rows 1 (rowsH hs), .row 1 z (msL 1 (rowsH hs))] (fun y Λ' => y = AB (mayB l (hs.map Prod.snd)) ∧ Λ' = [.rows 1 (rowsH hs), .row 1 z (msL 1 (rowsH hs))]) := by
  have h := rMay_p l (hs.map Prod.snd) hb hsh
  have e : rowsA (hs.map Prod.snd) = .sl 1 (slL 1 (rowsH hs)) none := by rw [sl_rows]
  rw [e] at h
  exact Pure.lend Try.func17 rfl rfl h rfl (LtL.cons (Lt.sub .refl) (LtL.cons (Lt.rows (by simp) (by simp)) LtL.nil))
theorem long_pos (v : KV) : 0 < longI v := by unfold longI; split <;> omega
theorem store_len (l : List KV) : (storeM l).length = l.length := by rw [storeM, List.length_map]
theorem store_at {l : List KV} {i : Nat} {v : KV} {r : List Int} (hv : l[i]? = some v) (hr : (storeM l)[i]? = some r) : r = List.replicate (longI v).toNat 0 := by
  rw [storeM, List.getElem?_map, hv] at hr; injection hr with hr; exact hr.symm
theorem fits_zero {v : KV} (h : soundB v = true) : fitsB v.kind 0 = true := by
  simp [soundB] at h
  rcases h.1.1 with (h | h) | h <;> simp [fitsB, h]
theorem sounds_at {l : List KV} (h : soundsB l = true) {v : KV} (hv : v ∈ l) : soundB v = true := by
  simp [soundsB] at h; exact h.2 v hv
theorem store_good {l : List KV} (h : soundsB l = true) : goodS l (storeM l) := fun i v r hv hr x hx => by
  rw [store_at hv hr] at hx
  rw [(List.mem_replicate.1 hx).2]
  exact fits_zero (sounds_at h (List.mem_of_getElem? hv))
theorem may_store {l : List KV} (h : soundsB l = true) : mayB l (storeM l) = true := may_good h (store_len l) (fun i v r hv hr => by rw [store_at hv hr, List.length_replicate]; have := long_pos v; omega) (store_good h)
theorem may_unsound {l : List KV} {s : List (List Int)} (h : soundsB l = false) : mayB l s = false := by simp [mayB, h]
theorem kinds_law (l : List KV) (ll : List Int) (e : KE) (hlb : l.length ≤ 281474976710656) (hll : ∀ a, a ∈ ll → i32 a) (hllb : ll.length ≤ 35184372088832) (hw : wfK e) : Pure Try.prog gs0 9 [varsA l, rowA ll, encK e] (AB true) := by
  have aw := awake_p
  have hln : ((l.map encV).length : Int) = l.length := by rw [List.length_map]
  have hlln : ((ll.map AI32).length : Int) = ll.length := by rw [List.length_map]
  rw [encK_eq]
  by_cases c1 : 300 < l.length
  · refine Pure.of (S := tt) (fn := Try.f9) (n := 148) tt_ok Try.func9 rfl rfl rfl rfl fun w0 h0 F hgs => ?_
    (repeat first|refine A.s rfl ?_|refine A.r rfl rfl ?_|refine A.w rfl rfl ?_|refine A.p rfl ?_|refine A.b rfl fun bx=>?_|refine A.t rfl fun bl=>?_)
    refine A.valE 18 rfl (x' := AB true) (ab_eq (by rw [hln]; simp; omega)) ?_
    ((repeat first|refine A.s rfl ?_|refine A.r rfl rfl ?_|refine A.w rfl rfl ?_|refine A.p rfl ?_|refine A.b rfl fun bx=>?_|refine A.t rfl fun bl=>?_); refine A.c rfl aw .refl ?_; (repeat first|refine A.s rfl ?_|refine A.r rfl rfl ?_|refine A.w rfl rfl ?_|refine A.p rfl ?_|refine A.b rfl fun bx=>?_|refine A.t rfl fun bl=>?_); refine A.ret1 (Λ' := []) rfl rfl rfl (List.nil_sublist _) ⟨?_, rfl⟩; exact .refl)
  by_cases c2 : 600 < ll.length
  · refine Pure.of (S := tt) (fn := Try.f9) (n := 148) tt_ok Try.func9 rfl rfl rfl rfl fun w0 h0 F hgs => ?_
    (repeat first|refine A.s rfl ?_|refine A.r rfl rfl ?_|refine A.w rfl rfl ?_|refine A.p rfl ?_|refine A.b rfl fun bx=>?_|refine A.t rfl fun bl=>?_)
    refine A.valE 18 rfl (x' := AB false) (ab_eq (by rw [hln]; simp; omega)) ?_
    (repeat first|refine A.s rfl ?_|refine A.r rfl rfl ?_|refine A.w rfl rfl ?_|refine A.p rfl ?_|refine A.b rfl fun bx=>?_|refine A.t rfl fun bl=>?_)
    refine A.valE 22 rfl (x' := AB true) (ab_eq (by simp; omega)) ?_
    ((repeat first|refine A.s rfl ?_|refine A.r rfl rfl ?_|refine A.w rfl rfl ?_|refine A.p rfl ?_|refine A.b rfl fun bx=>?_|refine A.t rfl fun bl=>?_); refine A.c rfl aw .refl ?_; (repeat first|refine A.s rfl ?_|refine A.r rfl rfl ?_|refine A.w rfl rfl ?_|refine A.p rfl ?_|refine A.b rfl fun bx=>?_|refine A.t rfl fun bl=>?_); refine A.ret1 (Λ' := []) rfl rfl rfl (List.nil_sublist _) ⟨?_, rfl⟩; exact .refl)
  cases hs : soundsB l with
  | false =>
    have h1 := storeS_p l hlb
    have h2 := rMay_p l [] hlb (by simp [short])
    have h3 := rStore_p l hlb
    rw [storeS, hs, if_neg (by simp)] at h1 h3
    rw [may_unsound hs] at h2
    refine Pure.of (S := tt) (fn := Try.f9) (n := 148) tt_ok Try.func9 rfl rfl rfl rfl fun w0 h0 F hgs => ?_
    (repeat first|refine A.s rfl ?_|refine A.r rfl rfl ?_|refine A.w rfl rfl ?_|refine A.p rfl ?_|refine A.b rfl fun bx=>?_|refine A.t rfl fun bl=>?_)
    refine A.valE 18 rfl (x' := AB false) (ab_eq (by rw [hln]; simp; omega)) ?_
    (repeat first|refine A.s rfl ?_|refine A.r rfl rfl ?_|refine A.w rfl rfl ?_|refine A.p rfl ?_|refine A.b rfl fun bx=>?_|refine A.t rfl fun bl=>?_)
    refine A.valE 22 rfl (x' := AB false) (ab_eq (by simp; omega)) ?_
    (repeat first|refine A.s rfl ?_|refine A.r rfl rfl ?_|refine A.w rfl rfl ?_|refine A.p rfl ?_|refine A.b rfl fun bx=>?_|refine A.t rfl fun bl=>?_); refine A.c rfl h1 .refl ?_
    (repeat first|refine A.s rfl ?_|refine A.r rfl rfl ?_|refine A.w rfl rfl ?_|refine A.p rfl ?_|refine A.b rfl fun bx=>?_|refine A.t rfl fun bl=>?_); refine A.c rfl h2 .refl ?_
    (repeat first|refine A.s rfl ?_|refine A.r rfl rfl ?_|refine A.w rfl rfl ?_|refine A.p rfl ?_|refine A.b rfl fun bx=>?_|refine A.t rfl fun bl=>?_); refine A.c rfl h3 .refl ?_
    ((repeat first|refine A.s rfl ?_|refine A.r rfl rfl ?_|refine A.w rfl rfl ?_|refine A.p rfl ?_|refine A.b rfl fun bx=>?_|refine A.t rfl fun bl=>?_); refine A.c rfl aw .refl ?_; (repeat first|refine A.s rfl ?_|refine A.r rfl rfl ?_|refine A.w rfl rfl ?_|refine A.p rfl ?_|refine A.b rfl fun bx=>?_|refine A.t rfl fun bl=>?_); refine A.ret1 (Λ' := []) rfl rfl rfl (List.nil_sublist _) ⟨?_, rfl⟩; exact .refl)
  | true =>
    have h1 := store_p l hs
    refine Pure.of (S := tt) (fn := Try.f9) (n := 148) tt_ok Try.func9 rfl rfl rfl rfl fun w0 h0 F hgs => ?_
    refine A.cstep rfl ?_
    refine A.cstep rfl ?_
    refine A.box rfl rfl rfl rfl rfl rfl rfl fun b5 => ?_
    (repeat first|refine A.s rfl ?_|refine A.r rfl rfl ?_|refine A.w rfl rfl ?_|refine A.p rfl ?_|refine A.b rfl fun bx=>?_|refine A.t rfl fun bl=>?_)
    refine A.valE 18 rfl (x' := AB false) (ab_eq (by rw [hln]; simp; omega)) ?_
    (repeat first|refine A.s rfl ?_|refine A.r rfl rfl ?_|refine A.w rfl rfl ?_|refine A.p rfl ?_|refine A.b rfl fun bx=>?_|refine A.t rfl fun bl=>?_)
    refine A.valE 22 rfl (x' := AB false) (ab_eq (by simp; omega)) ?_
    iterate 6 (first|refine A.s rfl ?_|refine A.r rfl rfl ?_|refine A.w rfl rfl ?_|refine A.p rfl ?_|refine A.b rfl fun bx=>?_|refine A.t rfl fun bl=>?_)
    refine A.alloc rfl rfl rfl rfl rfl rfl fun b7 => ?_
    (repeat first|refine A.s rfl ?_|refine A.r rfl rfl ?_|refine A.w rfl rfl ?_|refine A.p rfl ?_|refine A.b rfl fun bx=>?_|refine A.t rfl fun bl=>?_)
    refine A.e rfl h1 .refl (.refl _) fun p hp => ?_
    have hpl : p.2.length = l.length := by rw [← List.length_map (f := Prod.snd), hp, store_len]
    have hps : short (p.2.map Prod.snd) := by
      rw [hp]
      refine ⟨by rw [store_len]; exact hlb, fun r hr => ?_⟩
      rw [storeM] at hr
      refine Exists.elim (List.mem_map.1 hr) fun v hv => ?_
      have h9 := sounds_at hs hv.1
      rw [← hv.2, List.length_replicate]
      simp [soundB] at h9
      unfold longI; split <;> omega
    (repeat first|refine A.s rfl ?_|refine A.r rfl rfl ?_|refine A.w rfl rfl ?_|refine A.p rfl ?_|refine A.b rfl fun bx=>?_|refine A.t rfl fun bl=>?_)
    refine A.d rfl (may_lent l p.2 p.1 l.length hlb hps) .refl (List.Perm.refl _) ?_
    refine A.valE 30 rfl (x' := AB true) (ab_eq (by rw [hp]; exact may_store hs)) ?_
    (repeat first|refine A.s rfl ?_|refine A.r rfl rfl ?_|refine A.w rfl rfl ?_|refine A.p rfl ?_|refine A.b rfl fun bx=>?_|refine A.t rfl fun bl=>?_)
    refine A.valE 48 rfl (x' := AB false) (ab_eq (by rw [hln]; simp)) ?_
    (repeat first|refine A.s rfl ?_|refine A.r rfl rfl ?_|refine A.w rfl rfl ?_|refine A.p rfl ?_|refine A.b rfl fun bx=>?_|refine A.t rfl fun bl=>?_)
    refine A.valE 50 rfl (x' := AI (l.length : Nat)) (ai_eq hln) ?_
    have hm := rowsH_len p.2
    refine A.keep [0, 1, 5, 7, 8, 9, 49, 50, 51] rfl ?_
    refine A.less (Λ' := [.rows 1 (rowsH p.2), .row 1 p.1 (msL 1 (rowsH p.2)), .box _ (kernA l), .box _ (cellsK e)]) (by repeat (first | exact List.Sublist.refl _ | apply List.Sublist.cons_cons | apply List.Sublist.cons)) ?_
    refine A.loopP (ι := Nat × Nat × List (Value × List Int)) (fun q => (⟨[(0, varsA l), (1, rowA ll), (5, .v (.pointer (some ⟨b5, 0, none⟩))), (7, .v (.pointer (some ⟨b7, 0, none⟩))), (8, .ms p.1 1 l.length), (9, AI (q.2.1 : Nat)), (49, varsA l), (50, AI (l.length : Nat)), (51, AI (q.1 : Nat))], []⟩, [.rows 1 (rowsH q.2.2), .row 1 p.1 (msL 1 (rowsH p.2)), .box b7 (kernA l), .box b5 (cellsK e)]))
      (fun q => q.1 ≤ l.length ∧ q.2.1 ≤ ll.length ∧ q.2.2.length = l.length ∧ msL 1 (rowsH q.2.2) = msL 1 (rowsH p.2) ∧ goodS l (q.2.2.map Prod.snd) ∧ wfS (q.2.2.map Prod.snd)) (fun q => l.length - q.1) (0, 0, p.2) ⟨Nat.zero_le _, Nat.zero_le _, hpl, rfl, by rw [hp]; exact store_good hs, ?_⟩ rfl fun q hq ih => ?_
    · rw [hp]; intro r hr x hx
      rw [storeM] at hr
      refine Exists.elim (List.mem_map.1 hr) fun v hv => ?_
      rw [← hv.2] at hx; rw [(List.mem_replicate.1 hx).2]; exact i32_0
    obtain ⟨i, at', hs'⟩ := q
    obtain ⟨q1, q2, q3, q4, q5, q6⟩ := hq
    simp only at q1 q2 q3 q4 q5 q6
    (repeat first|refine A.s rfl ?_|refine A.r rfl rfl ?_|refine A.w rfl rfl ?_|refine A.p rfl ?_|refine A.b rfl fun bx=>?_|refine A.t rfl fun bl=>?_|refine A.step rfl ?_|refine A.v rfl rfl ?_)
    refine A.cond rfl (fun hc => ?_) (fun hc => ?_)
    · simp at hc
      refine Exists.elim (at_exN (l := hs') (i := i) (by omega)) fun y hy => Exists.elim (at_exN (l := l) (i := i) hc) fun v hv => ?_
      have hyl : (hs'.map Prod.snd)[i]? = some y.2 := map_at hy
      have hat := ms_at q4 hy
      have hat2 : (rowsH hs')[i]? = some (y.1, y.2.map AI32) := by rw [rowsH]; exact map_at hy
      have eNi := inc_eq i (by omega)
      have hil : i < hs'.length := by omega
      have hvs := sounds_at hs (List.mem_of_getElem? hv)
      have hyk := q5 i v y.2 hv hyl
      have hyw := q6 y.2 (List.mem_of_getElem? hyl)
      have hylen : (y.2.length : Int) ≤ 1000 := by
        have h8 : (msL 1 (rowsH p.2))[i]? = some (.ms y.1 1 y.2.length) := hat
        have h9 : i < p.2.length := by omega
        refine Exists.elim (at_exN h9) fun w hw9 => ?_
        have h10 := ms_at (hs := p.2) (hs' := p.2) rfl hw9
        rw [h8] at h10
        injection h10 with h10
        injection h10 with _ _ h10
        have h11 : (p.2.map Prod.snd)[i]? = some w.2 := map_at hw9
        rw [hp] at h11
        rw [store_at hv h11, List.length_replicate] at h10
        simp [soundB] at hvs
        have h12 := long_pos v
        have h13 : longI v ≤ 64 := by unfold longI; split <;> omega
        omega
      (repeat first|refine A.s rfl ?_|refine A.r rfl rfl ?_|refine A.w rfl rfl ?_|refine A.p rfl ?_|refine A.b rfl fun bx=>?_|refine A.t rfl fun bl=>?_)
      refine A.x rfl (by show (0 : Int) ≤ (i : Nat); omega) (map_at hv) rfl rfl ?_
      (repeat first|refine A.s rfl ?_|refine A.r rfl rfl ?_|refine A.w rfl rfl ?_|refine A.p rfl ?_|refine A.b rfl fun bx=>?_|refine A.t rfl fun bl=>?_)
      refine A.indexRow rfl rfl rfl rfl rfl rfl rfl rfl (by omega) (by rw [hm]; show (i : Int) < (p.2.length : Nat); omega) rfl ?_
      refine A.loadRow rfl rfl rfl rfl rfl rfl (y' := .ms y.1 1 y.2.length) rfl hat rfl rfl ?_
      refine A.rowsOut i hat2 (List.Perm.swap _ _ _) ?_
      (repeat first|refine A.s rfl ?_|refine A.r rfl rfl ?_|refine A.w rfl rfl ?_|refine A.p rfl ?_|refine A.b rfl fun bx=>?_|refine A.t rfl fun bl=>?_)
      refine A.keep [0, 1, 5, 7, 8, 9, 10, 11, 49, 50, 51, 60, 61] rfl ?_
      refine A.loopP (ι := Nat × Nat × List Int) (fun u => (⟨[(0, varsA l), (1, rowA ll), (5, .v (.pointer (some ⟨b5, 0, none⟩))), (7, .v (.pointer (some ⟨b7, 0, none⟩))), (8, .ms p.1 1 l.length), (9, AI (u.2.1 : Nat)), (10, AI (i : Nat)), (11, .v (.pointer (some ⟨bx, 0, none⟩))), (49, varsA l), (50, AI (l.length : Nat)), (51, AI (i : Nat)), (60, AI (y.2.length : Nat)), (61, AI (u.1 : Nat))], []⟩,
        [.row 1 y.1 (u.2.2.map AI32), .rows 1 ((rowsH hs').take i), .rows 1 ((rowsH hs').drop (i + 1)), .box bx (encV v), .row 1 p.1 (msL 1 (rowsH p.2)), .box b7 (kernA l), .box b5 (cellsK e)]))
        (fun u => u.1 ≤ y.2.length ∧ u.2.1 ≤ ll.length ∧ u.2.2.length = y.2.length ∧ (∀ x, x ∈ u.2.2 → fitsB v.kind x = true) ∧ ∀ x, x ∈ u.2.2 → i32 x) (fun u => y.2.length - u.1) (0, at', y.2) ⟨Nat.zero_le _, q2, rfl, hyk, hyw⟩ rfl fun u hu ihu => ?_
      obtain ⟨b, a, r⟩ := u
      obtain ⟨u1, u2, u3, u4, u5⟩ := hu
      simp only at u1 u2 u3 u4 u5
      (repeat first|refine A.s rfl ?_|refine A.r rfl rfl ?_|refine A.w rfl rfl ?_|refine A.p rfl ?_|refine A.b rfl fun bx=>?_|refine A.t rfl fun bl=>?_|refine A.step rfl ?_|refine A.v rfl rfl ?_)
      refine A.cond rfl (fun hc => ?_) (fun hc => ?_)
      · simp at hc
        by_cases hal : a = ll.length
        · (repeat first|refine A.s rfl ?_|refine A.r rfl rfl ?_|refine A.w rfl rfl ?_|refine A.p rfl ?_|refine A.b rfl fun bx=>?_|refine A.t rfl fun bl=>?_)
          refine A.valE 67 rfl (x' := AB true) (ab_eq (by rw [hlln]; exact beq_iff_eq.2 (by show ((a : Nat) : Int) = (ll.length : Nat); omega))) ?_
          (repeat first|refine A.s rfl ?_|refine A.r rfl rfl ?_|refine A.w rfl rfl ?_|refine A.p rfl ?_|refine A.b rfl fun bx=>?_|refine A.t rfl fun bl=>?_)
          (refine A.rowsBack (.refl _) ?_; refine A.entsEq (Λ' := [.rows 1 (rowsH (hs'.set i (y.1, r))), .box _ (encV v), .row 1 p.1 (msL 1 (rowsH p.2)), .box b7 (kernA l), .box b5 (cellsK e)]) (by rw [set_rows hil]) ?_; refine A.less (Λ' := [.rows 1 (rowsH (hs'.set i (y.1, r))), .row 1 p.1 (msL 1 (rowsH p.2)), .box b7 (kernA l), .box b5 (cellsK e)]) (by repeat (first | exact List.Sublist.refl _ | apply List.Sublist.cons_cons | apply List.Sublist.cons)) ?_; (repeat first|refine A.s rfl ?_|refine A.r rfl rfl ?_|refine A.w rfl rfl ?_|refine A.p rfl ?_|refine A.b rfl fun bx=>?_|refine A.t rfl fun bl=>?_); refine A.valE 51 rfl (x' := AI ((i + 1 : Nat) : Int)) eNi ?_; refine A.sub (by repeat (first | exact trivial | refine ⟨⟨_, rfl, .refl⟩, ?_⟩)) (ih (i + 1, a, hs'.set i (y.1, r)) ⟨by show i + 1 ≤ _; omega, u2, by rw [List.length_set]; exact q3, by rw [set_ms hy r u3]; exact q4, good_set q5 hv u4, wfS_set1 q6 u5⟩ (by show _ - (i + 1) < _ - i; omega)))
        · refine Exists.elim (at_exN (l := ll) (i := a) (by omega)) fun c hcc => Exists.elim (at_exN (l := r) (i := b) (by omega)) fun c0 hc0 => ?_
          have hci := hll c (List.mem_of_getElem? hcc)
          have eNb := inc_eq b (by omega)
          have eNa := inc_eq a (by omega)
          have hrb : b < r.length := by omega
          (repeat first|refine A.s rfl ?_|refine A.r rfl rfl ?_|refine A.w rfl rfl ?_|refine A.p rfl ?_|refine A.b rfl fun bx=>?_|refine A.t rfl fun bl=>?_)
          refine A.valE 67 rfl (x' := AB false) (ab_eq (by rw [hlln]; exact beq_eq_false_iff_ne.2 (by show ((a : Nat) : Int) ≠ (ll.length : Nat); omega))) ?_
          (repeat first|refine A.s rfl ?_|refine A.r rfl rfl ?_|refine A.w rfl rfl ?_|refine A.p rfl ?_|refine A.b rfl fun bx=>?_|refine A.t rfl fun bl=>?_)
          refine A.draw 9 [0, 1, 2, 3, 4, 5, 6, 7, 8] noPubs [] (by kernel_rfl) (by kernel_rfl) ?_
          (repeat first|refine WA.s rfl ?_|refine WA.r rfl rfl ?_|refine WA.p rfl ?_)
          refine WA.indexRow rfl rfl rfl rfl rfl rfl rfl rfl rfl (by omega) (by rw [hm]; show (i : Int) < (p.2.length : Nat); omega) rfl ?_
          refine WA.loadRow rfl rfl rfl rfl rfl rfl rfl (y' := .ms y.1 1 y.2.length) rfl hat rfl rfl ?_
          (repeat first|refine WA.s rfl ?_|refine WA.r rfl rfl ?_|refine WA.p rfl ?_)
          refine WA.x rfl (by show (0 : Int) ≤ (a : Nat); omega) (map_at hcc) rfl rfl ?_
          (repeat first|refine WA.s rfl ?_|refine WA.r rfl rfl ?_|refine WA.p rfl ?_)
          refine WA.nil (l := []) rfl ?_
          (repeat first|refine A.s rfl ?_|refine A.r rfl rfl ?_|refine A.w rfl rfl ?_|refine A.p rfl ?_|refine A.b rfl fun bx=>?_|refine A.t rfl fun bl=>?_)
          refine A.indexRow rfl rfl rfl rfl rfl rfl rfl rfl (by show (0 : Int) ≤ (b : Nat); omega) (by rw [List.length_map]; show (b : Int) < (r.length : Int); omega) rfl ?_
          refine A.storeRow rfl rfl rfl rfl rfl rfl rfl rfl rfl (by rw [List.length_map]; show b < r.length; omega) (xs' := (r.set b c).map AI32) List.map_set.symm ?_
          (repeat first|refine A.s rfl ?_|refine A.r rfl rfl ?_|refine A.w rfl rfl ?_|refine A.p rfl ?_|refine A.b rfl fun bx=>?_|refine A.t rfl fun bl=>?_)
          have hset : ∀ d, (r.set b c).set b d = r.set b d := fun d => List.set_set ..
          have hgb : (r.set b c)[b]? = some c := List.getElem?_set_self hrb
          refine A.cond rfl (fun hk => ?_) (fun hk => ?_)
          · have hk : v.kind = 2 := by simpa using hk
            have hbl := band_low c 255 (by omega) (by omega)
            have hfb : fitsB v.kind (band c 255) = true := by rw [hk]; simp [fitsB]; omega
            (repeat first|refine A.s rfl ?_|refine A.r rfl rfl ?_|refine A.w rfl rfl ?_|refine A.p rfl ?_|refine A.b rfl fun bx=>?_|refine A.t rfl fun bl=>?_)
            (refine A.indexRow rfl rfl rfl rfl rfl rfl rfl rfl (by omega) (by rw [hm]; show (i : Int) < (p.2.length : Nat); omega) rfl ?_; refine A.loadRow rfl rfl rfl rfl rfl rfl (y' := .ms y.1 1 y.2.length) rfl hat rfl rfl ?_; (repeat first|refine A.s rfl ?_|refine A.r rfl rfl ?_|refine A.w rfl rfl ?_|refine A.p rfl ?_|refine A.b rfl fun bx=>?_|refine A.t rfl fun bl=>?_); refine A.indexRow rfl rfl rfl rfl rfl rfl rfl rfl (by show (0 : Int) ≤ (b : Nat); omega) (by rw [List.length_map, List.length_set]; show (b : Int) < (r.length : Int); omega) rfl ?_; refine A.loadRow rfl rfl rfl rfl rfl rfl (y' := AI32 c) rfl (map_at hgb) rfl rfl ?_; (repeat first|refine A.s rfl ?_|refine A.r rfl rfl ?_|refine A.w rfl rfl ?_|refine A.p rfl ?_|refine A.b rfl fun bx=>?_|refine A.t rfl fun bl=>?_); refine A.indexRow rfl rfl rfl rfl rfl rfl rfl rfl (by show (0 : Int) ≤ (b : Nat); omega) (by rw [List.length_map, List.length_set]; show (b : Int) < (r.length : Int); omega) rfl ?_)
            refine A.storeRow rfl rfl rfl rfl rfl rfl rfl rfl rfl (by rw [List.length_map, List.length_set]; show b < r.length; omega) (xs' := (r.set b (band c 255)).map AI32) (by rw [← hset (band c 255)]; exact List.map_set.symm) ?_
            (repeat first|refine A.s rfl ?_|refine A.r rfl rfl ?_|refine A.w rfl rfl ?_|refine A.p rfl ?_|refine A.b rfl fun bx=>?_|refine A.t rfl fun bl=>?_)
            refine A.valE 9 rfl (x' := AI ((a + 1 : Nat) : Int)) eNa ?_
            refine A.valE 61 rfl (x' := AI ((b + 1 : Nat) : Int)) eNb ?_
            refine A.sub (by repeat (first | exact trivial | refine ⟨⟨_, rfl, .refl⟩, ?_⟩)) (ihu (b + 1, a + 1, r.set b (band c 255)) ⟨by show b + 1 ≤ _; omega, by show a + 1 ≤ _; omega, by rw [List.length_set]; exact u3, ?_, ?_⟩ (by show _ - (b + 1) < _ - b; omega))
            · intro x hx
              rcases List.mem_or_eq_of_mem_set hx with hx | rfl
              · exact u4 x hx
              · exact hfb
            · intro x hx
              rcases List.mem_or_eq_of_mem_set hx with hx | rfl
              · exact u5 x hx
              · exact (by unfold i32; omega)
          · have hk : v.kind ≠ 2 := by simpa using hk
            (repeat first|refine A.s rfl ?_|refine A.r rfl rfl ?_|refine A.w rfl rfl ?_|refine A.p rfl ?_|refine A.b rfl fun bx=>?_|refine A.t rfl fun bl=>?_)
            refine A.cond rfl (fun hk3 => ?_) (fun hk3 => ?_)
            · have hk3 : v.kind = 3 := by simpa using hk3
              have hbl := band_low c 1 (by omega) (by omega)
              have hfb : fitsB v.kind (band c 1) = true := by rw [hk3]; simp [fitsB]; omega
              (repeat first|refine A.s rfl ?_|refine A.r rfl rfl ?_|refine A.w rfl rfl ?_|refine A.p rfl ?_|refine A.b rfl fun bx=>?_|refine A.t rfl fun bl=>?_)
              (refine A.indexRow rfl rfl rfl rfl rfl rfl rfl rfl (by omega) (by rw [hm]; show (i : Int) < (p.2.length : Nat); omega) rfl ?_; refine A.loadRow rfl rfl rfl rfl rfl rfl (y' := .ms y.1 1 y.2.length) rfl hat rfl rfl ?_; (repeat first|refine A.s rfl ?_|refine A.r rfl rfl ?_|refine A.w rfl rfl ?_|refine A.p rfl ?_|refine A.b rfl fun bx=>?_|refine A.t rfl fun bl=>?_); refine A.indexRow rfl rfl rfl rfl rfl rfl rfl rfl (by show (0 : Int) ≤ (b : Nat); omega) (by rw [List.length_map, List.length_set]; show (b : Int) < (r.length : Int); omega) rfl ?_; refine A.loadRow rfl rfl rfl rfl rfl rfl (y' := AI32 c) rfl (map_at hgb) rfl rfl ?_; (repeat first|refine A.s rfl ?_|refine A.r rfl rfl ?_|refine A.w rfl rfl ?_|refine A.p rfl ?_|refine A.b rfl fun bx=>?_|refine A.t rfl fun bl=>?_); refine A.indexRow rfl rfl rfl rfl rfl rfl rfl rfl (by show (0 : Int) ≤ (b : Nat); omega) (by rw [List.length_map, List.length_set]; show (b : Int) < (r.length : Int); omega) rfl ?_)
              refine A.storeRow rfl rfl rfl rfl rfl rfl rfl rfl rfl (by rw [List.length_map, List.length_set]; show b < r.length; omega) (xs' := (r.set b (band c 1)).map AI32) (by rw [← hset (band c 1)]; exact List.map_set.symm) ?_
              (repeat first|refine A.s rfl ?_|refine A.r rfl rfl ?_|refine A.w rfl rfl ?_|refine A.p rfl ?_|refine A.b rfl fun bx=>?_|refine A.t rfl fun bl=>?_)
              refine A.valE 9 rfl (x' := AI ((a + 1 : Nat) : Int)) eNa ?_
              refine A.valE 61 rfl (x' := AI ((b + 1 : Nat) : Int)) eNb ?_
              refine A.sub (by repeat (first | exact trivial | refine ⟨⟨_, rfl, .refl⟩, ?_⟩)) (ihu (b + 1, a + 1, r.set b (band c 1)) ⟨by show b + 1 ≤ _; omega, by show a + 1 ≤ _; omega, by rw [List.length_set]; exact u3, ?_, ?_⟩ (by show _ - (b + 1) < _ - b; omega))
              · intro x hx
                rcases List.mem_or_eq_of_mem_set hx with hx | rfl
                · exact u4 x hx
                · exact hfb
              · intro x hx
                rcases List.mem_or_eq_of_mem_set hx with hx | rfl
                · exact u5 x hx
                · exact (by unfold i32; omega)
            · have hk3 : v.kind ≠ 3 := by simpa using hk3
              have hk1 : v.kind = 1 := by simp [soundB] at hvs; omega
              have hfb : fitsB v.kind c = true := by rw [hk1]; simp [fitsB]
              (repeat first|refine A.s rfl ?_|refine A.r rfl rfl ?_|refine A.w rfl rfl ?_|refine A.p rfl ?_|refine A.b rfl fun bx=>?_|refine A.t rfl fun bl=>?_)
              refine A.valE 9 rfl (x' := AI ((a + 1 : Nat) : Int)) eNa ?_
              refine A.valE 61 rfl (x' := AI ((b + 1 : Nat) : Int)) eNb ?_
              refine A.sub (by repeat (first | exact trivial | refine ⟨⟨_, rfl, .refl⟩, ?_⟩)) (ihu (b + 1, a + 1, r.set b c) ⟨by show b + 1 ≤ _; omega, by show a + 1 ≤ _; omega, by rw [List.length_set]; exact u3, ?_, ?_⟩ (by show _ - (b + 1) < _ - b; omega))
              · intro x hx
                rcases List.mem_or_eq_of_mem_set hx with hx | rfl
                · exact u4 x hx
                · exact hfb
              · intro x hx
                rcases List.mem_or_eq_of_mem_set hx with hx | rfl
                · exact u5 x hx
                · exact hci
      · simp at hc
        (repeat first|refine A.s rfl ?_|refine A.r rfl rfl ?_|refine A.w rfl rfl ?_|refine A.p rfl ?_|refine A.b rfl fun bx=>?_|refine A.t rfl fun bl=>?_)
        (refine A.rowsBack (.refl _) ?_; refine A.entsEq (Λ' := [.rows 1 (rowsH (hs'.set i (y.1, r))), .box _ (encV v), .row 1 p.1 (msL 1 (rowsH p.2)), .box b7 (kernA l), .box b5 (cellsK e)]) (by rw [set_rows hil]) ?_; refine A.less (Λ' := [.rows 1 (rowsH (hs'.set i (y.1, r))), .row 1 p.1 (msL 1 (rowsH p.2)), .box b7 (kernA l), .box b5 (cellsK e)]) (by repeat (first | exact List.Sublist.refl _ | apply List.Sublist.cons_cons | apply List.Sublist.cons)) ?_; (repeat first|refine A.s rfl ?_|refine A.r rfl rfl ?_|refine A.w rfl rfl ?_|refine A.p rfl ?_|refine A.b rfl fun bx=>?_|refine A.t rfl fun bl=>?_); refine A.valE 51 rfl (x' := AI ((i + 1 : Nat) : Int)) eNi ?_; refine A.sub (by repeat (first | exact trivial | refine ⟨⟨_, rfl, .refl⟩, ?_⟩)) (ih (i + 1, a, hs'.set i (y.1, r)) ⟨by show i + 1 ≤ _; omega, u2, by rw [List.length_set]; exact q3, by rw [set_ms hy r u3]; exact q4, good_set q5 hv u4, wfS_set1 q6 u5⟩ (by show _ - (i + 1) < _ - i; omega)))
    · simp at hc
      have hlen : hs'.length = l.length := q3
      refine A.less (Λ' := [.rows 1 (rowsH hs'), .row 1 p.1 (msL 1 (rowsH p.2)), .box b7 (kernA l), .box b5 (cellsK e)]) (by repeat (first | exact List.Sublist.refl _ | apply List.Sublist.cons_cons | apply List.Sublist.cons)) ?_
      refine A.entsEq (Λ' := [.rows 1 (rowsH hs'), .row 1 p.1 (msL 1 (rowsH hs')), .box b7 (kernA l), .box b5 (cellsK e)]) (by rw [q4]) ?_
      refine A.freezeRows 8 rfl (.refl _) ?_
      have hrl : ∀ (j : Nat) (w : KV) (q : List Int), l[j]? = some w → (hs'.map Prod.snd)[j]? = some q → (q.length : Int) = longI w := fun j w q hw9 hq9 => by
        rw [List.getElem?_map] at hq9
        obtain ⟨y, hy, rfl⟩ := Option.map_eq_some_iff.1 hq9
        have h1 := ms_at q4 hy
        have h2 : j < p.2.length := by have := (List.getElem?_eq_some_iff.1 hy).1; omega
        obtain ⟨z, hz⟩ := at_exN h2
        have h3 := ms_at (hs := p.2) (hs' := p.2) rfl hz
        rw [h1] at h3
        injection h3 with h3
        injection h3 with _ _ h3
        have h4 : (p.2.map Prod.snd)[j]? = some z.2 := map_at hz
        rw [hp] at h4
        rw [h3, store_at hw9 h4, List.length_replicate]
        have := long_pos w; omega
      have hmay := may_good hs (by rw [List.length_map]; exact hlen) hrl q5
      have hmp := may_p l (hs'.map Prod.snd) hlb ⟨by rw [List.length_map, hlen]; exact hlb, fun q hq => by
        obtain ⟨j, hj⟩ := List.getElem?_of_mem hq
        have hj2 : j < l.length := by have := (List.getElem?_eq_some_iff.1 hj).1; rw [List.length_map] at this; omega
        obtain ⟨w, hw9⟩ := at_exN hj2
        have h9 := hrl j w q hw9 hj
        have h10 := sounds_at hs (List.mem_of_getElem? hw9)
        simp [soundB] at h10
        have h13 : longI w ≤ 64 := by unfold longI; split <;> omega
        omega⟩
      rw [hmay] at hmp
      have hv := Value_p (hs'.map Prod.snd) q6 e hw
      have hf3 := Fits_p l e hw 3
      have hf2 := Fits_p l e hw 2
      rw [encK_eq] at hv hf3 hf2
      have hvm : ∀ k x, (decide (valid e) && fitsM l e k) = true → valueM (hs'.map Prod.snd) e = some x → kindOk k x := fun k x h1 h2 => by
        rw [Bool.and_eq_true, decide_eq_true_eq] at h1
        rw [valueM, if_pos h1.1] at h2
        exact fits_value q5 h1.1.1 h1.2 h2
      refine A.valE 8 rfl (x' := rowsA (hs'.map Prod.snd)) (by rw [sl_rows]) ?_
      (repeat first|refine A.s rfl ?_|refine A.r rfl rfl ?_|refine A.w rfl rfl ?_|refine A.p rfl ?_|refine A.b rfl fun bx=>?_|refine A.t rfl fun bl=>?_); refine A.c rfl hmp .refl ?_
      (repeat first|refine A.s rfl ?_|refine A.r rfl rfl ?_|refine A.w rfl rfl ?_|refine A.p rfl ?_|refine A.b rfl fun bx=>?_|refine A.t rfl fun bl=>?_); refine A.c rfl hv .refl ?_
      (repeat first|refine A.s rfl ?_|refine A.r rfl rfl ?_|refine A.w rfl rfl ?_|refine A.p rfl ?_|refine A.b rfl fun bx=>?_|refine A.t rfl fun bl=>?_)
      by_cases hn : valueM (hs'.map Prod.snd) e = none
      · refine A.valE 117 rfl (x' := AB true) (ab_eq (by rw [hn]; rfl)) ?_
        (repeat first|refine A.s rfl ?_|refine A.r rfl rfl ?_|refine A.w rfl rfl ?_|refine A.p rfl ?_|refine A.b rfl fun bx=>?_|refine A.t rfl fun bl=>?_)
        refine A.valE 120 rfl (x' := AB true) (ab_eq (by rw [hn]; rfl)) ?_
        ((repeat first|refine A.s rfl ?_|refine A.r rfl rfl ?_|refine A.w rfl rfl ?_|refine A.p rfl ?_|refine A.b rfl fun bx=>?_|refine A.t rfl fun bl=>?_); refine A.c rfl aw .refl ?_; (repeat first|refine A.s rfl ?_|refine A.r rfl rfl ?_|refine A.w rfl rfl ?_|refine A.p rfl ?_|refine A.b rfl fun bx=>?_|refine A.t rfl fun bl=>?_); refine A.ret1 (Λ' := []) rfl rfl rfl (List.nil_sublist _) ⟨?_, rfl⟩; exact .refl)
      refine Exists.elim (Option.ne_none_iff_exists'.1 hn) fun x hx => ?_
      refine A.valE 117 rfl (x' := AB false) (ab_eq (by rw [hx]; rfl)) ?_
      refine A.valE 13 rfl (x' := AI32 x) (by rw [hx]; rfl) ?_
      (repeat first|refine A.s rfl ?_|refine A.r rfl rfl ?_|refine A.w rfl rfl ?_|refine A.p rfl ?_|refine A.b rfl fun bx=>?_|refine A.t rfl fun bl=>?_); refine A.c rfl hf3 .refl ?_; (repeat first|refine A.s rfl ?_|refine A.r rfl rfl ?_|refine A.w rfl rfl ?_|refine A.p rfl ?_|refine A.b rfl fun bx=>?_|refine A.t rfl fun bl=>?_)
      by_cases k3 : (decide (valid e) && fitsM l e 3) = true
      · have hx01 := (hvm 3 x k3 hx).2 rfl
        refine A.valE 126 rfl (x' := AB true) (ab_eq k3) ?_
        by_cases hx0 : x = 0
        · (repeat first|refine A.s rfl ?_|refine A.r rfl rfl ?_|refine A.w rfl rfl ?_|refine A.p rfl ?_|refine A.b rfl fun bx=>?_|refine A.t rfl fun bl=>?_)
          refine A.valE 130 rfl (x' := AB false) (ab_eq (by simp [hx0])) ?_
          ((repeat first|refine A.s rfl ?_|refine A.r rfl rfl ?_|refine A.w rfl rfl ?_|refine A.p rfl ?_|refine A.b rfl fun bx=>?_|refine A.t rfl fun bl=>?_); refine A.c rfl hf2 .refl ?_; (repeat first|refine A.s rfl ?_|refine A.r rfl rfl ?_|refine A.w rfl rfl ?_|refine A.p rfl ?_|refine A.b rfl fun bx=>?_|refine A.t rfl fun bl=>?_); by_cases k2 : (decide (valid e) && fitsM l e 2) = true; (have hxr := (hvm 2 x k2 hx).1 rfl; refine A.valE 138 rfl (x' := AB true) (ab_eq k2) ?_; (repeat first|refine A.s rfl ?_|refine A.r rfl rfl ?_|refine A.w rfl rfl ?_|refine A.p rfl ?_|refine A.b rfl fun bx=>?_|refine A.t rfl fun bl=>?_); refine A.valE 141 rfl (x' := AB false) (ab_eq (by simp; omega)) ?_; (repeat first|refine A.s rfl ?_|refine A.r rfl rfl ?_|refine A.w rfl rfl ?_|refine A.p rfl ?_|refine A.b rfl fun bx=>?_|refine A.t rfl fun bl=>?_); refine A.valE 146 rfl (x' := AB false) (ab_eq (by simp; omega)) ?_; ((repeat first|refine A.s rfl ?_|refine A.r rfl rfl ?_|refine A.w rfl rfl ?_|refine A.p rfl ?_|refine A.b rfl fun bx=>?_|refine A.t rfl fun bl=>?_); refine A.c rfl aw .refl ?_; (repeat first|refine A.s rfl ?_|refine A.r rfl rfl ?_|refine A.w rfl rfl ?_|refine A.p rfl ?_|refine A.b rfl fun bx=>?_|refine A.t rfl fun bl=>?_); refine A.ret1 (Λ' := []) rfl rfl rfl (List.nil_sublist _) ⟨?_, rfl⟩; exact .refl)); (refine A.valE 138 rfl (x' := AB false) (ab_eq (by simpa using k2)) ?_; ((repeat first|refine A.s rfl ?_|refine A.r rfl rfl ?_|refine A.w rfl rfl ?_|refine A.p rfl ?_|refine A.b rfl fun bx=>?_|refine A.t rfl fun bl=>?_); refine A.c rfl aw .refl ?_; (repeat first|refine A.s rfl ?_|refine A.r rfl rfl ?_|refine A.w rfl rfl ?_|refine A.p rfl ?_|refine A.b rfl fun bx=>?_|refine A.t rfl fun bl=>?_); refine A.ret1 (Λ' := []) rfl rfl rfl (List.nil_sublist _) ⟨?_, rfl⟩; exact .refl)))
        · have hx1 : x = 1 := by omega
          (repeat first|refine A.s rfl ?_|refine A.r rfl rfl ?_|refine A.w rfl rfl ?_|refine A.p rfl ?_|refine A.b rfl fun bx=>?_|refine A.t rfl fun bl=>?_)
          refine A.valE 130 rfl (x' := AB true) (ab_eq (by simp [hx0])) ?_
          (repeat first|refine A.s rfl ?_|refine A.r rfl rfl ?_|refine A.w rfl rfl ?_|refine A.p rfl ?_|refine A.b rfl fun bx=>?_|refine A.t rfl fun bl=>?_)
          refine A.valE 134 rfl (x' := AB false) (ab_eq (by simp [hx1])) ?_
          ((repeat first|refine A.s rfl ?_|refine A.r rfl rfl ?_|refine A.w rfl rfl ?_|refine A.p rfl ?_|refine A.b rfl fun bx=>?_|refine A.t rfl fun bl=>?_); refine A.c rfl hf2 .refl ?_; (repeat first|refine A.s rfl ?_|refine A.r rfl rfl ?_|refine A.w rfl rfl ?_|refine A.p rfl ?_|refine A.b rfl fun bx=>?_|refine A.t rfl fun bl=>?_); by_cases k2 : (decide (valid e) && fitsM l e 2) = true; (have hxr := (hvm 2 x k2 hx).1 rfl; refine A.valE 138 rfl (x' := AB true) (ab_eq k2) ?_; (repeat first|refine A.s rfl ?_|refine A.r rfl rfl ?_|refine A.w rfl rfl ?_|refine A.p rfl ?_|refine A.b rfl fun bx=>?_|refine A.t rfl fun bl=>?_); refine A.valE 141 rfl (x' := AB false) (ab_eq (by simp; omega)) ?_; (repeat first|refine A.s rfl ?_|refine A.r rfl rfl ?_|refine A.w rfl rfl ?_|refine A.p rfl ?_|refine A.b rfl fun bx=>?_|refine A.t rfl fun bl=>?_); refine A.valE 146 rfl (x' := AB false) (ab_eq (by simp; omega)) ?_; ((repeat first|refine A.s rfl ?_|refine A.r rfl rfl ?_|refine A.w rfl rfl ?_|refine A.p rfl ?_|refine A.b rfl fun bx=>?_|refine A.t rfl fun bl=>?_); refine A.c rfl aw .refl ?_; (repeat first|refine A.s rfl ?_|refine A.r rfl rfl ?_|refine A.w rfl rfl ?_|refine A.p rfl ?_|refine A.b rfl fun bx=>?_|refine A.t rfl fun bl=>?_); refine A.ret1 (Λ' := []) rfl rfl rfl (List.nil_sublist _) ⟨?_, rfl⟩; exact .refl)); (refine A.valE 138 rfl (x' := AB false) (ab_eq (by simpa using k2)) ?_; ((repeat first|refine A.s rfl ?_|refine A.r rfl rfl ?_|refine A.w rfl rfl ?_|refine A.p rfl ?_|refine A.b rfl fun bx=>?_|refine A.t rfl fun bl=>?_); refine A.c rfl aw .refl ?_; (repeat first|refine A.s rfl ?_|refine A.r rfl rfl ?_|refine A.w rfl rfl ?_|refine A.p rfl ?_|refine A.b rfl fun bx=>?_|refine A.t rfl fun bl=>?_); refine A.ret1 (Λ' := []) rfl rfl rfl (List.nil_sublist _) ⟨?_, rfl⟩; exact .refl)))
      · refine A.valE 126 rfl (x' := AB false) (ab_eq (by simpa using k3)) ?_
        ((repeat first|refine A.s rfl ?_|refine A.r rfl rfl ?_|refine A.w rfl rfl ?_|refine A.p rfl ?_|refine A.b rfl fun bx=>?_|refine A.t rfl fun bl=>?_); refine A.c rfl hf2 .refl ?_; (repeat first|refine A.s rfl ?_|refine A.r rfl rfl ?_|refine A.w rfl rfl ?_|refine A.p rfl ?_|refine A.b rfl fun bx=>?_|refine A.t rfl fun bl=>?_); by_cases k2 : (decide (valid e) && fitsM l e 2) = true; (have hxr := (hvm 2 x k2 hx).1 rfl; refine A.valE 138 rfl (x' := AB true) (ab_eq k2) ?_; (repeat first|refine A.s rfl ?_|refine A.r rfl rfl ?_|refine A.w rfl rfl ?_|refine A.p rfl ?_|refine A.b rfl fun bx=>?_|refine A.t rfl fun bl=>?_); refine A.valE 141 rfl (x' := AB false) (ab_eq (by simp; omega)) ?_; (repeat first|refine A.s rfl ?_|refine A.r rfl rfl ?_|refine A.w rfl rfl ?_|refine A.p rfl ?_|refine A.b rfl fun bx=>?_|refine A.t rfl fun bl=>?_); refine A.valE 146 rfl (x' := AB false) (ab_eq (by simp; omega)) ?_; ((repeat first|refine A.s rfl ?_|refine A.r rfl rfl ?_|refine A.w rfl rfl ?_|refine A.p rfl ?_|refine A.b rfl fun bx=>?_|refine A.t rfl fun bl=>?_); refine A.c rfl aw .refl ?_; (repeat first|refine A.s rfl ?_|refine A.r rfl rfl ?_|refine A.w rfl rfl ?_|refine A.p rfl ?_|refine A.b rfl fun bx=>?_|refine A.t rfl fun bl=>?_); refine A.ret1 (Λ' := []) rfl rfl rfl (List.nil_sublist _) ⟨?_, rfl⟩; exact .refl)); (refine A.valE 138 rfl (x' := AB false) (ab_eq (by simpa using k2)) ?_; ((repeat first|refine A.s rfl ?_|refine A.r rfl rfl ?_|refine A.w rfl rfl ?_|refine A.p rfl ?_|refine A.b rfl fun bx=>?_|refine A.t rfl fun bl=>?_); refine A.c rfl aw .refl ?_; (repeat first|refine A.s rfl ?_|refine A.r rfl rfl ?_|refine A.w rfl rfl ?_|refine A.p rfl ?_|refine A.b rfl fun bx=>?_|refine A.t rfl fun bl=>?_); refine A.ret1 (Λ' := []) rfl rfl rfl (List.nil_sublist _) ⟨?_, rfl⟩; exact .refl)))
end Go.Proofs.Ytbbainjecjdkmaa
