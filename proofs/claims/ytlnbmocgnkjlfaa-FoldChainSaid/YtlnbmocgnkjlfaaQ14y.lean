/-
  Chapter 14: FoldChain.
-/
import Derived.Test.YtlnbmocgnkjlfaaQ14r
import Derived.Test.YtlnbmocgnkjlfaaLe

namespace Go.Proofs.Ytlnbmocgnkjlfaa
open Go Go.Tp
set_option linter.unusedVariables false
set_option linter.unusedSimpArgs false
set_option maxRecDepth 100000
set_option maxHeartbeats 4000000

/-- the name of the i-th constant -/
def nmC (i : Nat) : List UInt8 := [120, UInt8.ofNat (97 + i / 26), UInt8.ofNat (97 + i % 26)]
theorem nmC_ok : ∀ i, i < 201 → nameB (nmC i) = true := by decide +kernel
def lastX (v : Int) : Nat → XE
  | 0 => numX v
  | i + 1 => nameX (nmC i)
def dblS (v : Int) : Nat → List SP
  | 0 => []
  | i + 1 => dblS v i ++ [valS (nmC i) (twoX 6 (lastX v i) (lastX v i))]
def cntX (v : Int) (i : Nat) : XE := if i = 0 then numX v else twoX 6 (nameX [110]) (numX 1)
def cntS (v : Int) : Nat → List SP
  | 0 => []
  | i + 1 => cntS v i ++ [valS [110] (cntX v i)]
def wantC (v : Int) : Nat → Int
  | 0 => v
  | i + 1 => w32 (wantC v i + wantC v i)
theorem dblS_len (v : Int) : ∀ i, (dblS v i).length = i
  | 0 => rfl
  | i + 1 => by rw [dblS, List.length_append, dblS_len v i]; rfl
theorem cntS_len (v : Int) : ∀ i, (cntS v i).length = i
  | 0 => rfl
  | i + 1 => by rw [cntS, List.length_append, cntS_len v i]; rfl
theorem dblS_pre (v : Int) : ∀ n i, i ≤ n → (dblS v n).take i = dblS v i
  | 0, i, h => by have : i = 0 := by omega
                  subst this; rfl
  | n + 1, i, h => by
    by_cases hi : i = n + 1
    · subst hi; rw [List.take_of_length_le (by rw [dblS_len]; exact Nat.le_refl _)]
    · rw [dblS, List.take_append_of_le_length (by rw [dblS_len]; omega), dblS_pre v n i (by omega)]
theorem cntS_pre (v : Int) : ∀ n i, i ≤ n → (cntS v n).take i = cntS v i
  | 0, i, h => by have : i = 0 := by omega
                  subst this; rfl
  | n + 1, i, h => by
    by_cases hi : i = n + 1
    · subst hi; rw [List.take_of_length_le (by rw [cntS_len]; exact Nat.le_refl _)]
    · rw [cntS, List.take_append_of_le_length (by rw [cntS_len]; omega), cntS_pre v n i (by omega)]
theorem dblS_at (v : Int) (n i : Nat) (h : i < n) : (dblS v n)[i]? = some (valS (nmC i) (twoX 6 (lastX v i) (lastX v i))) := by
  have h1 : ((dblS v n).take (i + 1))[i]? = (dblS v n)[i]? := by rw [List.getElem?_take]; simp
  rw [← h1, dblS_pre v n (i + 1) (by omega), dblS, List.getElem?_append_right (by rw [dblS_len]; exact Nat.le_refl _), dblS_len, Nat.sub_self]; rfl
theorem cntS_at (v : Int) (n i : Nat) (h : i < n) : (cntS v n)[i]? = some (valS [110] (cntX v i)) := by
  have h1 : ((cntS v n).take (i + 1))[i]? = (cntS v n)[i]? := by rw [List.getElem?_take]; simp
  rw [← h1, cntS_pre v n (i + 1) (by omega), cntS, List.getElem?_append_right (by rw [cntS_len]; exact Nat.le_refl _), cntS_len, Nat.sub_self]; rfl
theorem find_last (env : List SP) (s : List UInt8) (n : Nat) {x : SP} (h : env[n]? = some x) (hx : x.names = [s]) : findB env s (n + 1) = n := by
  rw [findB_at h, hx]; simp
theorem last_valid (v : Int) (i : Nat) (h : i ≤ 201) : validX (lastX v i) := by
  cases i with
  | zero => exact num_valid v
  | succ i => exact name_valid (nmC_ok i (by omega))
theorem two_valid {a b : XE} {o : Int} (ho : 1 ≤ o ∧ o ≤ 22) (ha : fineX a = true) (hb : fineX b = true) (hsa : szX a = 1) (hsb : szX b = 1) (hta : htX a = 1) (htb : htX b = 1) : validX (twoX o a b) := by
  refine ⟨?_, ?_, ?_⟩
  · simp only [fineX, fineXl, ha, hb, Bool.and_true]
    show shapeX (twoX o a b) = true
    unfold shapeX
    show ((partsM 7 o 0 0 []).2 && decide (((2 : Nat) : Int) = (partsM 7 o 0 0 []).1)) = true
    simp [partsM, ho]
  · simp [szX, szXl, hsa, hsb]
  · simp [htX, htXl, hta, htb]
theorem last_sz (v : Int) (i : Nat) : szX (lastX v i) = 1 ∧ htX (lastX v i) = 1 := by cases i <;> simp [lastX, szX, szXl, htX, htXl]
theorem dbl_valid (v : Int) (i : Nat) (h : i ≤ 201) : validX (twoX 6 (lastX v i) (lastX v i)) :=
  two_valid (by decide) (last_valid v i h).1 (last_valid v i h).1 (last_sz v i).1 (last_sz v i).1 (last_sz v i).2 (last_sz v i).2
theorem cnt_valid (v : Int) (i : Nat) : validX (cntX v i) := by
  unfold cntX
  split
  · exact num_valid v
  · exact two_valid (by decide) (name_valid (by decide +kernel)).1 (num_valid 1).1 (by simp [szX, szXl]) (by simp [szX, szXl]) (by simp [htX, htXl]) (by simp [htX, htXl])
theorem valX_two (env : List SP) (vals : List (Int × Bool)) (a b : XE) (x y : Int) (h1 : valX env vals a = (x, true)) (h2 : valX env vals b = (y, true)) : valX env vals (twoX 6 a b) = (w32 (x + y), true) := by
  rw [valX_eq]
  show opV 6 (valXl env vals [a, b]) = _
  rw [valXl, valXl, valXl, h1, h2]; rfl
theorem vals_D (v : Int) (n : Nat) (hn : n ≤ 201) : ∀ i, i ≤ n → valsP (dblS v n) i = (List.range i).map fun j => (wantC v (j + 1), true)
  | 0, _ => rfl
  | i + 1, h => by
    have ih := vals_D v n hn i (by omega)
    rw [valsP, ih, List.range_succ, List.map_append]
    congr 1
    show [stepV _ _ _] = [_]
    congr 1
    unfold stepV
    rw [dblS_at v n i (by omega)]
    show (if (2 : Int) = 2 ∧ validX (twoX 6 (lastX v i) (lastX v i)) then valX _ _ (twoX 6 (lastX v i) (lastX v i)) else (0, false)) = _
    rw [if_pos ⟨rfl, dbl_valid v i (by omega)⟩, dblS_pre v n i (by omega)]
    have hl : valX (dblS v i) ((List.range i).map fun j => (wantC v (j + 1), true)) (lastX v i) = (wantC v i, true) := by
      cases i with
      | zero => exact valX_num _ _ _
      | succ j =>
        show valX _ _ (nameX (nmC j)) = _
        rw [valX_name, dblS_len, find_last _ _ _ (dblS_at v (j + 1) j (by omega)) rfl, if_pos (by omega)]
        simp
    rw [valX_two _ _ _ _ _ _ hl hl]; rfl
def cntV (v : Int) : Nat → Int
  | 0 => v
  | i + 1 => w32 (cntV v i + 1)
theorem cntV_eq (v : Int) (hv : i32 v) : ∀ i, cntV v i = w32 (v + i)
  | 0 => by rw [cntV]; symm; have := w32_id hv; simpa [w32] using this
  | i + 1 => by
    rw [cntV, cntV_eq v hv i]
    unfold w32
    rw [w32_eq, w32_eq, w32_eq]
    omega
theorem vals_C (v : Int) (n : Nat) : ∀ i, i ≤ n → valsP (cntS v n) i = (List.range i).map fun j => (cntV v j, true)
  | 0, _ => rfl
  | i + 1, h => by
    have ih := vals_C v n i (by omega)
    rw [valsP, ih, List.range_succ, List.map_append]
    congr 1
    show [stepV _ _ _] = [_]
    congr 1
    unfold stepV
    rw [cntS_at v n i (by omega)]
    show (if (2 : Int) = 2 ∧ validX (cntX v i) then valX _ _ (cntX v i) else (0, false)) = _
    rw [if_pos ⟨rfl, cnt_valid v i⟩, cntS_pre v n i (by omega)]
    cases i with
    | zero => exact valX_num _ _ _
    | succ j =>
      have hl : valX (cntS v (j + 1)) ((List.range (j + 1)).map fun j => (cntV v j, true)) (nameX [110]) = (cntV v j, true) := by
        rw [valX_name, cntS_len, find_last _ _ _ (cntS_at v (j + 1) j (by omega)) rfl, if_pos (by omega)]
        simp
      show valX _ _ (twoX 6 (nameX [110]) (numX 1)) = _
      rw [valX_two _ _ _ _ _ _ hl (valX_num _ _ _)]; rfl
theorem dbl_const (v : Int) (n : Nat) (hn : n ≤ 201) : constE (dblS v n) (lastX v n) = (wantC v n, 0) := by
  have hl : valE (dblS v n) (lastX v n) = (wantC v n, true) := by
    unfold valE
    rw [dblS_len, vals_D v n hn n (Nat.le_refl _)]
    cases n with
    | zero => exact valX_num _ _ _
    | succ j =>
      show valX _ _ (nameX (nmC j)) = _
      rw [valX_name, dblS_len, find_last _ _ _ (dblS_at v (j + 1) j (by omega)) rfl, if_pos (by omega)]
      simp
  rw [constE, if_pos (last_valid v n hn), hl]; rfl
theorem cnt_const (v : Int) (n : Nat) : constE (cntS v (n + 1)) (nameX [110]) = (cntV v n, 0) := by
  have hl : valE (cntS v (n + 1)) (nameX [110]) = (cntV v n, true) := by
    unfold valE
    rw [cntS_len, vals_C v (n + 1) (n + 1) (Nat.le_refl _), valX_name, cntS_len, find_last _ _ _ (cntS_at v (n + 1) n (by omega)) rfl, if_pos (by omega)]
    simp
  rw [constE, if_pos (name_valid (by decide +kernel)), hl]; rfl
theorem dbl_ok (v : Int) (hv : i32 v) (n : Nat) (hn : n ≤ 200) : SpecsOk (dblS v n) := env_ok (by rw [dblS_len]; exact hn) (fun x hx => by
  obtain ⟨i, hi⟩ := List.mem_iff_getElem?.1 hx
  have hlt : i < n := by
    rcases Nat.lt_or_ge i n with h | h
    · exact h
    · rw [List.getElem?_eq_none (by rw [dblS_len]; exact h)] at hi; cases hi
  rw [dblS_at v n i hlt] at hi
  injection hi with hi; subst hi
  refine ⟨by show 1 ≤ 8; decide, by show i64 0; unfold i64; omega, ?_⟩
  show wfX (twoX 6 (lastX v i) (lastX v i))
  cases i <;> simp [lastX, nmC, wfX, wfXl, u8, i32] <;> (unfold i32 at hv; omega))
theorem cnt_ok (v : Int) (hv : i32 v) (n : Nat) (hn : n ≤ 200) : SpecsOk (cntS v n) := env_ok (by rw [cntS_len]; exact hn) (fun x hx => by
  obtain ⟨i, hi⟩ := List.mem_iff_getElem?.1 hx
  have hlt : i < n := by
    rcases Nat.lt_or_ge i n with h | h
    · exact h
    · rw [List.getElem?_eq_none (by rw [cntS_len]; exact h)] at hi; cases hi
  rw [cntS_at v n i hlt] at hi
  injection hi with hi; subst hi
  refine ⟨by show 1 ≤ 8; decide, by show i64 0; unfold i64; omega, ?_⟩
  show wfX (cntX v i)
  unfold cntX
  split <;> simp [wfX, wfXl, u8, i32] <;> (unfold i32 at hv; omega))
theorem tmodN {v : Int} (n : Nat) (hv : 0 ≤ v) : v.tmod n = ((v.toNat % n : Nat) : Int) := by
  rw [Int.tmod_eq_emod_of_nonneg hv, Int.natCast_emod, Int.toNat_of_nonneg hv]
theorem comes_dbl (v : Int) (n : Nat) (hn : n ≤ 201) : comesM (dblS v n) (lastX v n) (wantC v n) = true := by simp [comesM, dbl_const v n hn]
theorem comes_cnt (v : Int) (hv : i32 v) (n : Nat) (hn : n ≤ 200) : comesM (cntS v (n + 1)) (nameX [110]) (IntKind.i32.wrap (v + IntKind.i32.wrap (n : Int))) = true := by
  have : IntKind.i32.wrap (n : Int) = n := w32_id (by unfold i32; omega)
  rw [this]
  simp [comesM, cnt_const, cntV_eq v hv]; rfl
theorem chain_law (m : Int) (v n : Int) (hv : i32 v) (hn : u8 n) : Pure Try.prog (gsM m) 6 [AI32 v, AU8 n] (AB true) := by
  have hk : n.toNat % 201 < 201 := Nat.mod_lt _ (by decide)
  have ek : n.tmod (201 : Nat) = ((n.toNat % 201 : Nat) : Int) := tmodN _ hn.1
  generalize n.toNat % 201 = k at hk ek
  have aw := awake_p m
  have nm := fun n => (number_p n).any (gs := gsM m)
  have na := fun s => (nameX_p s).any (gs := gsM m)
  have tw := fun o a b => (two_p o a b).any (gs := gsM m)
  have vl := fun s e => (valS_p s e).any (gs := gsM m)
  have hlw : wfX (lastX v k) := by cases k <;> simp [lastX, nmC, wfX, wfXl, u8, i32] <;> (unfold i32 at hv; omega)
  have cd := comes_p m (dblS v k) (dbl_ok v hv k (by omega)) (lastX v k) hlw (wantC v k)
  rw [comes_dbl v k (by omega)] at cd
  have ek2 : arV BinOp.rem IntKind.i64 (IntKind.i64.wrap n) 201 = (k : Int) := by
    have e1 : IntKind.i64.wrap n = n := wr64 _ (by unfold u8 at hn; omega)
    rw [e1]
    simp only [arV]
    have : n.tmod 201 = (k : Int) := ek
    rw [this]
  refine Pure.of (S := tt) (fn := Try.f6) (n := 82) tt_ok Try.func6 rfl rfl rfl rfl fun w0 h0 F hgs => ?_
  (repeat first|refine A.s rfl ?_|refine A.r rfl rfl ?_|refine A.w rfl rfl ?_|refine A.p rfl ?_|refine A.b rfl fun bx=>?_|refine A.t rfl fun bl=>?_)
  refine A.divrem rfl rfl rfl rfl rfl rfl rfl (by decide) ?_
  refine A.valE 15 rfl (x' := AI (k : Nat)) (ai_eq ek2) ?_
  (repeat first|refine A.s rfl ?_|refine A.r rfl rfl ?_|refine A.w rfl rfl ?_|refine A.p rfl ?_|refine A.b rfl fun bx=>?_|refine A.t rfl fun bl=>?_)
  refine A.lit0 rfl rfl rfl rfl rfl rfl rfl fun bl1 => ?_
  refine A.lit0 rfl rfl rfl rfl rfl rfl rfl fun bl2 => ?_
  (repeat first|refine A.s rfl ?_|refine A.r rfl rfl ?_|refine A.w rfl rfl ?_|refine A.p rfl ?_|refine A.b rfl fun bx=>?_|refine A.t rfl fun bl=>?_)
  refine A.c rfl (nm v) .refl ?_
  (repeat first|refine A.s rfl ?_|refine A.r rfl rfl ?_|refine A.w rfl rfl ?_|refine A.p rfl ?_|refine A.b rfl fun bx=>?_|refine A.t rfl fun bl=>?_)
  refine A.fullTail 16 0 (some ⟨bl2, 0, none⟩) (fun h => by cases h) (fun x hx => by injection hx with hx; subst hx; rfl) ?_
  refine A.fullTail 16 0 (some ⟨bl1, 0, none⟩) (fun h => by cases h) (fun x hx => by injection hx with hx; subst hx; rfl) ?_
  refine A.keep [0, 5, 6, 7, 8, 9, 21, 22] rfl ?_
  refine A.loopP (ι := Nat × Value × Value) (fun p => (⟨[(0, AI32 v), (5, AI (k : Nat)), (6, .sl 16 ((dblS v p.1).map encS) (some p.2.1)), (7, .sl 16 ((cntS v p.1).map encS) (some p.2.2)), (8, .v (.pointer (some ⟨_, 0, none⟩))), (9, AI32 (wantC v p.1)), (21, AI (k : Nat)), (22, AI (p.1 : Nat))], []⟩, [.tail 16 p.2.1, .tail 16 p.2.2, .box _ (cellsX (lastX v p.1))]))
    (fun p => p.1 ≤ k) (fun p => k - p.1) (0, _, _) (Nat.zero_le _) rfl fun p hi ih => ?_
  obtain ⟨i, z1, z2⟩ := p
  have hi : i ≤ k := hi
  (repeat first|refine A.s rfl ?_|refine A.r rfl rfl ?_|refine A.w rfl rfl ?_|refine A.p rfl ?_|refine A.b rfl fun bx=>?_|refine A.t rfl fun bl=>?_)
  refine A.cond rfl (fun hc => ?_) (fun hc => ?_)
  · simp at hc
    have hc : i < k := by omega
    have e28 : AV.v (.int .u8 (IntKind.u8.wrap (IntKind.i64.wrap (97 + arV BinOp.quo IntKind.i64 (i : Nat) 26)))) = AU8 ((97 + i / 26 : Nat) : Int) := by
      simp only [arV]
      have h1 : (i : Int).tdiv 26 = ((i / 26 : Nat) : Int) := by rw [Int.tdiv_eq_ediv_of_nonneg (by omega)]; omega
      rw [h1]
      have h2 : i / 26 ≤ 7 := by omega
      refine au8_eq ?_
      have e1 : IntKind.i64.wrap ((i / 26 : Nat) : Int) = ((i / 26 : Nat) : Int) := wr64 _ (by omega)
      have e2 : IntKind.i64.wrap (97 + ((i / 26 : Nat) : Int)) = 97 + ((i / 26 : Nat) : Int) := wr64 _ (by omega)
      rw [e1, e2, IntKind.wrap]
      simp [IntKind.signed, IntKind.bits]; omega
    have e32 : AV.v (.int .u8 (IntKind.u8.wrap (IntKind.i64.wrap (97 + arV BinOp.rem IntKind.i64 (i : Nat) 26)))) = AU8 ((97 + i % 26 : Nat) : Int) := by
      simp only [arV]
      have h1 : (i : Int).tmod 26 = ((i % 26 : Nat) : Int) := tmodN 26 (by omega)
      rw [h1]
      have h2 : i % 26 ≤ 25 := by omega
      refine au8_eq ?_
      have e2 : IntKind.i64.wrap (97 + ((i % 26 : Nat) : Int)) = 97 + ((i % 26 : Nat) : Int) := wr64 _ (by omega)
      rw [e2, IntKind.wrap]
      simp [IntKind.signed, IntKind.bits]; omega
    (repeat first|refine A.s rfl ?_|refine A.r rfl rfl ?_|refine A.w rfl rfl ?_|refine A.p rfl ?_|refine A.b rfl fun bx=>?_|refine A.t rfl fun bl=>?_)
    refine A.divrem rfl rfl rfl rfl rfl rfl rfl (by decide) ?_
    (repeat first|refine A.s rfl ?_|refine A.r rfl rfl ?_|refine A.w rfl rfl ?_|refine A.p rfl ?_|refine A.b rfl fun bx=>?_|refine A.t rfl fun bl=>?_)
    refine A.valE 28 rfl (x' := AU8 ((97 + i / 26 : Nat) : Int)) e28 ?_
    refine A.divrem rfl rfl rfl rfl rfl rfl rfl (by decide) ?_
    (repeat first|refine A.s rfl ?_|refine A.r rfl rfl ?_|refine A.w rfl rfl ?_|refine A.p rfl ?_|refine A.b rfl fun bx=>?_|refine A.t rfl fun bl=>?_)
    refine A.val 33 rfl (x' := .sl 1 ([((97 + i / 26 : Nat) : Int), ((97 + i % 26 : Nat) : Int)].map fun n => .v (.int .u8 n)) none) (.own (SbL.cons .refl (SbL.cons (Sb.eq e32) .refl))) ?_
    refine A.bytesStr (s := [UInt8.ofNat (97 + i / 26), UInt8.ofNat (97 + i % 26)]) rfl rfl rfl rfl rfl rfl rfl rfl rfl rfl rfl ?_
    refine A.j rfl (c := BS (nmC i)) (as_app [120] _) rfl (by show 1 + 2 ≤ _; decide) ?_
    (repeat first|refine A.s rfl ?_|refine A.r rfl rfl ?_|refine A.w rfl rfl ?_|refine A.p rfl ?_|refine A.b rfl fun bx=>?_|refine A.t rfl fun bl=>?_)
    refine A.c rfl (tw 6 (lastX v i) (lastX v i)) .refl ?_
    refine A.c rfl (vl (nmC i) (twoX 6 (lastX v i) (lastX v i))) .refl ?_
    (repeat first|refine A.s rfl ?_|refine A.r rfl rfl ?_|refine A.w rfl rfl ?_|refine A.p rfl ?_|refine A.b rfl fun bx=>?_|refine A.t rfl fun bl=>?_)
    refine A.entsEq (Λ' := [.tail ty58.size z1, .tail ty58.size z2, .box _ _]) rfl ?_
    refine A.append rfl rfl rfl rfl rfl rfl rfl rfl rfl rfl rfl rfl rfl rfl (by show ((List.map encS (dblS v i)).length + 1) * 16 ≤ _; rw [List.length_map, dblS_len]; omega) fun z1' => ?_
    refine A.valE 43 rfl (x' := .sl 16 ((dblS v (i + 1)).map encS) (some z1')) (by rw [dblS, List.map_append]; rfl) ?_
    (repeat first|refine A.s rfl ?_|refine A.r rfl rfl ?_|refine A.w rfl rfl ?_|refine A.p rfl ?_|refine A.b rfl fun bx=>?_|refine A.t rfl fun bl=>?_)
    refine A.c rfl (na (nmC i)) .refl ?_
    (repeat first|refine A.s rfl ?_|refine A.r rfl rfl ?_|refine A.w rfl rfl ?_|refine A.p rfl ?_|refine A.b rfl fun bx=>?_|refine A.t rfl fun bl=>?_)
    refine A.c rfl (nm v) .refl ?_
    (repeat first|refine A.s rfl ?_|refine A.r rfl rfl ?_|refine A.w rfl rfl ?_|refine A.p rfl ?_|refine A.b rfl fun bx=>?_|refine A.t rfl fun bl=>?_)
    ((fail_if_success (refine A.lit? rfl ?_)); refine A.gS rfl (fun hc => ?_) (fun hc => ?_))
    · simp at hc
      have hcx : cntX v i = twoX 6 (nameX [110]) (numX 1) := if_neg (by omega)
      (repeat first|refine A.s rfl ?_|refine A.r rfl rfl ?_|refine A.w rfl rfl ?_|refine A.p rfl ?_|refine A.b rfl fun bx=>?_|refine A.t rfl fun bl=>?_)
      refine A.c rfl (na [110]) .refl ?_
      refine A.c rfl (nm 1) .refl ?_
      refine A.c rfl (tw 6 (nameX [110]) (numX 1)) .refl ?_
      have vlc := vl [110] (cntX v i)
      rw [hcx] at vlc
      (repeat first|refine A.s rfl ?_|refine A.r rfl rfl ?_|refine A.w rfl rfl ?_|refine A.p rfl ?_|refine A.b rfl fun bx=>?_|refine A.t rfl fun bl=>?_)
      refine A.c rfl vlc .refl ?_
      (repeat first|refine A.s rfl ?_|refine A.r rfl rfl ?_|refine A.w rfl rfl ?_|refine A.p rfl ?_|refine A.b rfl fun bx=>?_|refine A.t rfl fun bl=>?_)
      refine A.entsEq (Λ' := [.box _ _, .tail ty58.size z1', .tail ty58.size z2, .box _ _]) rfl ?_
      refine A.append rfl rfl rfl rfl rfl rfl rfl rfl rfl rfl rfl rfl rfl rfl (by show ((List.map encS (cntS v i)).length + 1) * 16 ≤ _; rw [List.length_map, cntS_len]; omega) fun z2' => ?_
      refine A.valE 60 rfl (x' := .sl 16 ((cntS v (i + 1)).map encS) (some z2')) (by rw [cntS, hcx, List.map_append]; rfl) ?_
      (repeat first|refine A.s rfl ?_|refine A.r rfl rfl ?_|refine A.w rfl rfl ?_|refine A.p rfl ?_|refine A.b rfl fun bx=>?_|refine A.t rfl fun bl=>?_)
      refine A.valE 22 rfl (x' := AI ((i + 1 : Nat) : Int)) (inc_eq i (by omega)) ?_
      refine A.perm (Λ' := [.tail 16 z1', .tail 16 z2', .box _ _, .box _ (cellsX (lastX v (i + 1)))]) (List.Perm.trans (List.Perm.cons _ (List.Perm.swap _ _ _)) (List.Perm.swap _ _ _)) ?_
      refine A.less (Λ' := [.tail 16 z1', .tail 16 z2', .box _ (cellsX (lastX v (i + 1)))]) (by repeat (first | exact List.Sublist.refl _ | apply List.Sublist.cons_cons | apply List.Sublist.cons)) ?_
      refine A.sub (by repeat (first | exact trivial | refine ⟨⟨_, rfl, .refl⟩, ?_⟩)) (ih (i + 1, z1', z2') (by show i + 1 ≤ _; omega) (by show _ - (i + 1) < _ - i; omega))
    · simp at hc
      have hcx : cntX v i = numX v := if_pos (by omega)
      have vlc := vl [110] (cntX v i)
      rw [hcx] at vlc
      (repeat first|refine A.s rfl ?_|refine A.r rfl rfl ?_|refine A.w rfl rfl ?_|refine A.p rfl ?_|refine A.b rfl fun bx=>?_|refine A.t rfl fun bl=>?_)
      refine A.c rfl vlc .refl ?_
      (repeat first|refine A.s rfl ?_|refine A.r rfl rfl ?_|refine A.w rfl rfl ?_|refine A.p rfl ?_|refine A.b rfl fun bx=>?_|refine A.t rfl fun bl=>?_)
      refine A.entsEq (Λ' := [.box _ _, .tail ty58.size z1', .tail ty58.size z2, .box _ _]) rfl ?_
      refine A.append rfl rfl rfl rfl rfl rfl rfl rfl rfl rfl rfl rfl rfl rfl (by show ((List.map encS (cntS v i)).length + 1) * 16 ≤ _; rw [List.length_map, cntS_len]; omega) fun z2' => ?_
      refine A.valE 60 rfl (x' := .sl 16 ((cntS v (i + 1)).map encS) (some z2')) (by rw [cntS, hcx, List.map_append]; rfl) ?_
      (repeat first|refine A.s rfl ?_|refine A.r rfl rfl ?_|refine A.w rfl rfl ?_|refine A.p rfl ?_|refine A.b rfl fun bx=>?_|refine A.t rfl fun bl=>?_)
      refine A.valE 22 rfl (x' := AI ((i + 1 : Nat) : Int)) (inc_eq i (by omega)) ?_
      refine A.perm (Λ' := [.tail 16 z1', .tail 16 z2', .box _ _, .box _ (cellsX (lastX v (i + 1)))]) (List.Perm.trans (List.Perm.cons _ (List.Perm.swap _ _ _)) (List.Perm.swap _ _ _)) ?_
      refine A.less (Λ' := [.tail 16 z1', .tail 16 z2', .box _ (cellsX (lastX v (i + 1)))]) (by repeat (first | exact List.Sublist.refl _ | apply List.Sublist.cons_cons | apply List.Sublist.cons)) ?_
      refine A.sub (by repeat (first | exact trivial | refine ⟨⟨_, rfl, .refl⟩, ?_⟩)) (ih (i + 1, z1', z2') (by show i + 1 ≤ _; omega) (by show _ - (i + 1) < _ - i; omega))
  · simp at hc
    have hik : i = k := by omega
    subst hik
    (repeat first|refine A.s rfl ?_|refine A.r rfl rfl ?_|refine A.w rfl rfl ?_|refine A.p rfl ?_|refine A.b rfl fun bx=>?_|refine A.t rfl fun bl=>?_)
    refine A.c rfl cd (by repeat (first | exact Sb.refl | exact SbL.refl | refine SbL.cons ?_ ?_ | exact Sb.nil | exact Sb.own1 | refine Sb.own ?_ | refine Sb.ag ?_ | refine Sb.tp ?_)) ?_
    (repeat first|refine A.s rfl ?_|refine A.r rfl rfl ?_|refine A.w rfl rfl ?_|refine A.p rfl ?_|refine A.b rfl fun bx=>?_|refine A.t rfl fun bl=>?_)
    ((fail_if_success (refine A.lit? rfl ?_)); refine A.gS rfl (fun hc => ?_) (fun hc => ?_))
    · (repeat first|refine A.s rfl ?_|refine A.r rfl rfl ?_|refine A.w rfl rfl ?_|refine A.p rfl ?_|refine A.b rfl fun bx=>?_|refine A.t rfl fun bl=>?_); refine A.c rfl aw .refl ?_
      (repeat first|refine A.s rfl ?_|refine A.r rfl rfl ?_|refine A.w rfl rfl ?_|refine A.p rfl ?_|refine A.b rfl fun bx=>?_|refine A.t rfl fun bl=>?_); refine A.ret1 (Λ' := []) rfl rfl rfl (List.nil_sublist _) ⟨?_, rfl⟩; exact .refl
    · simp at hc
      obtain ⟨j, rfl⟩ : ∃ j, i = j + 1 := ⟨i - 1, by omega⟩
      have cc := comes_p m (cntS v (j + 1)) (cnt_ok v hv (j + 1) (by omega)) (nameX [110]) (by simp [wfX, wfXl, u8, i32]) (IntKind.i32.wrap (v + IntKind.i32.wrap (j : Int)))
      rw [comes_cnt v hv j (by omega)] at cc
      (repeat first|refine A.s rfl ?_|refine A.r rfl rfl ?_|refine A.w rfl rfl ?_|refine A.p rfl ?_|refine A.b rfl fun bx=>?_|refine A.t rfl fun bl=>?_)
      refine A.c rfl (na [110]) .refl ?_
      (repeat first|refine A.s rfl ?_|refine A.r rfl rfl ?_|refine A.w rfl rfl ?_|refine A.p rfl ?_|refine A.b rfl fun bx=>?_|refine A.t rfl fun bl=>?_)
      refine A.valE 76 rfl (x' := AI32 (IntKind.i32.wrap (v + IntKind.i32.wrap (j : Int)))) (ai32_eq (by have e : IntKind.i64.wrap (((j + 1 : Nat) : Int) - 1) = (j : Int) := (wr64 _ (by omega)).trans (by omega); rw [e])) ?_
      refine A.c rfl cc (by repeat (first | exact Sb.refl | exact SbL.refl | refine SbL.cons ?_ ?_ | exact Sb.nil | exact Sb.own1 | refine Sb.own ?_ | refine Sb.ag ?_ | refine Sb.tp ?_)) ?_
      (repeat first|refine A.s rfl ?_|refine A.r rfl rfl ?_|refine A.w rfl rfl ?_|refine A.p rfl ?_|refine A.b rfl fun bx=>?_|refine A.t rfl fun bl=>?_); refine A.c rfl aw .refl ?_
      (repeat first|refine A.s rfl ?_|refine A.r rfl rfl ?_|refine A.w rfl rfl ?_|refine A.p rfl ?_|refine A.b rfl fun bx=>?_|refine A.t rfl fun bl=>?_); refine A.ret1 (Λ' := []) rfl rfl rfl (List.nil_sublist _) ⟨?_, rfl⟩; exact .refl
end Go.Proofs.Ytlnbmocgnkjlfaa
