/-
  Chapter 23: sets of channels as words, networks, the law's and the reference's small functions.
-/
import Derived.Test.YtpilobbmijpnoaaQ0i
import Derived.Test.YtpilobbmijpnoaaLf

namespace Go.Proofs.Ytpilobbmijpnoaa
open Go Go.Tp
set_option linter.unusedVariables false
set_option linter.unusedSimpArgs false
set_option maxRecDepth 100000
set_option maxHeartbeats 4000000

/-! ### words of 64 bits -/
abbrev W64 := BitVec 64
abbrev U64 (b : W64) : AV := .v (.int .u64 (b.toNat : Int))
theorem u64_eq {a : Int} {b : W64} (h : a = b.toNat) : AV.v (.int .u64 a) = U64 b := by rw [h]
theorem wrap_bv (b : W64) : IntKind.u64.wrap (b.toNat : Int) = b.toNat := by
  have := b.isLt
  rw [wu64_eq]; omega
theorem ofInt_bv (b : W64) : BitVec.ofInt 64 (b.toNat : Int) = b := by
  apply BitVec.eq_of_toNat_eq; simp
theorem uand (a b : W64) : bitsOf .and .u64 (a.toNat : Int) (b.toNat : Int) = ((a &&& b).toNat : Int) := by
  show IntKind.u64.wrap ((BitVec.ofInt 64 (a.toNat : Int) &&& BitVec.ofInt 64 (b.toNat : Int)).toNat : Int) = _
  rw [ofInt_bv, ofInt_bv]; exact wrap_bv _
theorem uor (a b : W64) : bitsOf .or .u64 (a.toNat : Int) (b.toNat : Int) = ((a ||| b).toNat : Int) := by
  show IntKind.u64.wrap ((BitVec.ofInt 64 (a.toNat : Int) ||| BitVec.ofInt 64 (b.toNat : Int)).toNat : Int) = _
  rw [ofInt_bv, ofInt_bv]; exact wrap_bv _
theorem uandn (a b : W64) : bitsOf .andNot .u64 (a.toNat : Int) (b.toNat : Int) = ((a &&& ~~~b).toNat : Int) := by
  show IntKind.u64.wrap ((BitVec.ofInt 64 (a.toNat : Int) &&& ~~~BitVec.ofInt 64 (b.toNat : Int)).toNat : Int) = _
  rw [ofInt_bv, ofInt_bv]; exact wrap_bv _
def bitW (d : Nat) : W64 := 1#64 <<< d
theorem ushl (d : Nat) (h : d < 64) : arV .shl .u64 1 (d : Int) = ((bitW d).toNat : Int) := by
  simp only [arV, show IntKind.u64.bits = 64 from rfl, Int.toNat_natCast, Nat.min_eq_left (Nat.le_of_lt h), bitW]
  rw [wu64_eq, BitVec.toNat_shiftLeft]
  simp [Nat.shiftLeft_eq]
theorem ushr (a : W64) (d : Nat) (h : d < 64) : arV .shr .u64 (a.toNat : Int) (d : Int) = ((a >>> d).toNat : Int) := by
  simp only [arV, show IntKind.u64.bits = 64 from rfl, Int.toNat_natCast, Nat.min_eq_left (Nat.le_of_lt h)]
  rw [BitVec.toNat_ushiftRight, Nat.shiftRight_eq_div_pow]
  have h2 : (0 : Int) ≤ 2 ^ d := Int.le_of_lt (Int.pow_pos (by omega))
  rw [Int.fdiv_eq_ediv_of_nonneg _ h2]
  push_cast
  rfl
theorem bit_test (a : W64) (d : Nat) : ((((a >>> d) &&& 1#64).toNat : Int) == 1) = a.getLsbD d := by
  have h1 : ((a >>> d) &&& 1#64).toNat = (a.toNat >>> d) % 2 := by
    rw [BitVec.toNat_and, BitVec.toNat_ushiftRight]; simp [Nat.and_one_is_mod]
  rw [h1, Bool.eq_iff_iff]
  simp only [beq_iff_eq, BitVec.getLsbD, Nat.testBit, Nat.and_comm 1, Nat.and_one_is_mod]
  have : a.toNat >>> d % 2 < 2 := Nat.mod_lt _ (by omega)
  simp only [bne_iff_ne]
  omega
theorem bitW_get (d i : Nat) (hd : d < 64) : (bitW d).getLsbD i = decide (i = d) := by
  simp only [bitW, BitVec.getLsbD_shiftLeft]
  rw [Bool.eq_iff_iff]
  simp
  omega
/-! ### arrays of 64 -/
def upd {α : Type} (g : Nat → α) (x : Nat) (v : α) : Nat → α := fun i => if i = x then v else g i
abbrev arrL (f : Nat → AV) : List AV := (List.range 64).map f
theorem range_at {α : Type} {n i : Nat} (f : Nat → α) (h : i < n) : ((List.range n).map f)[i]? = some (f i) := by
  rw [List.getElem?_map, List.getElem?_range h]; rfl
theorem range_set {α β : Type} {n : Nat} (f : α → β) (g : Nat → α) (x : Nat) (v : α) : ((List.range n).map fun i => f (g i)).set x (f v) = (List.range n).map fun i => f (upd g x v i) := by
  apply List.ext_getElem?
  intro i
  rw [List.getElem?_set]
  by_cases h : i < n
  · rw [range_at _ h, List.length_map, List.length_range]
    by_cases hx : x = i
    · subst hx; simp [upd, h]
    · rw [if_neg hx, range_at _ h, upd, if_neg (fun e => hx e.symm)]
  · rw [List.getElem?_eq_none (by simp; omega), List.getElem?_eq_none (by simp; omega)]
    simp; omega
abbrev setL (g : Nat → W64) : List AV := arrL fun i => U64 (g i)
abbrev intL (g : Nat → Int) : List AV := arrL fun i => AI (g i)
theorem off1 (x : Nat) : 0 + (x : Int).toNat * 1 = x := by simp
theorem arr_len (f : Nat → AV) : (arrL f).length = 64 := by rw [List.length_map, List.length_range]
theorem set_one (g : Nat → W64) : oneA (setL g) = true := oneA_map fun _ => rfl
theorem int_one (g : Nat → Int) : oneA (intL g) = true := oneA_map fun _ => rfl
theorem set_zero : setL (fun _ => 0) = List.replicate 64 (.v (.int .u64 0)) := by
  show (List.range 64).map (fun _ => U64 0) = _
  rw [List.map_const', List.length_range]; rfl
theorem int_zero : intL (fun _ => 0) = List.replicate 64 (AI 0) := by
  show (List.range 64).map (fun _ => AI 0) = _
  rw [List.map_const', List.length_range]

/-! ### networks -/
abbrev Procs := List (List (List Int))
abbrev rowA (l : List Int) : AV := .sl 1 (l.map AI) none
abbrev procA (p : List (List Int)) : AV := .sl 1 (p.map rowA) none
abbrev procsA (c : Procs) : AV := .sl 1 (c.map procA) none
abbrev netA (n : Int) (c : Procs) : AV := .ag [AI n, procsA c]
/-- steps and uses of channels -/
def sizeP (p : List (List Int)) : Nat := (p.map fun s => 1 + s.length).sum
def sizeN (c : Procs) : Nat := (c.map sizeP).sum
theorem sizeP_cons (s : List Int) (p : List (List Int)) : sizeP (s :: p) = 1 + s.length + sizeP p := by simp [sizeP]
theorem sizeN_cons (p : List (List Int)) (c : Procs) : sizeN (p :: c) = sizeP p + sizeN c := by simp [sizeN]
/-- not larger than a statement looks at -/
structure Small (c : Procs) : Prop where
  procs : c.length ≤ 20
  steps : ∀ p, p ∈ c → p.length ≤ 70
  size : sizeN c ≤ 200
theorem sizeP_mem {p : List (List Int)} {s : List Int} (h : s ∈ p) : s.length < sizeP p + 1 := by
  induction p with
  | nil => cases h
  | cons x p ih => rw [sizeP_cons]; rcases List.mem_cons.1 h with rfl | h; omega; have := ih h; omega
theorem sizeN_mem {c : Procs} {p : List (List Int)} (h : p ∈ c) : sizeP p ≤ sizeN c := by
  induction c with
  | nil => cases h
  | cons x c ih => rw [sizeN_cons]; rcases List.mem_cons.1 h with rfl | h; omega; have := ih h; omega
theorem Small.row {c : Procs} (h : Small c) {p : List (List Int)} {s : List Int} (hp : p ∈ c) (hs : s ∈ p) : s.length ≤ 200 := by
  have h1 := sizeP_mem hs
  have h2 := sizeN_mem hp
  have h3 := h.size
  omega
end Go.Proofs.Ytpilobbmijpnoaa
