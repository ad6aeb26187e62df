/-
  Chapter 14: the reference's bits, its Apply and Convert.
-/
import Derived.Test.YtbdjbmbghfbenaaQ14c

namespace Go.Proofs.Ytbdjbmbghfbenaa
open Go Go.Tp
set_option linter.unusedVariables false
set_option linter.unusedSimpArgs false
set_option maxRecDepth 100000
set_option maxHeartbeats 4000000

def bitM (o x y : Int) : Int := if o = 9 then x * y else if o = 10 then x + y - x * y else if o = 11 then (x + y) % 2 else 1 - x
def bit01 (x : Int) : Prop := x = 0 ∨ x = 1
theorem bitM_01 (o : Int) {x y : Int} (hx : bit01 x) (hy : bit01 y) : bit01 (bitM o x y) := by
  rcases hx with rfl | rfl <;> rcases hy with rfl | rfl <;> unfold bitM bit01 <;> (repeat' split) <;> simp
def bat (a : Int) (i : Nat) : Int := uns a / 2 ^ i % 2
theorem bat_01 (a : Int) (i : Nat) : bit01 (bat a i) := by unfold bit01 bat; omega
def bsum (o a b : Int) : Nat → Int
  | 0 => 0
  | i + 1 => bsum o a b i + bitM o (bat a i) (bat b i) * 2 ^ i
theorem bsum_in (o a b : Int) : ∀ i, 0 ≤ bsum o a b i ∧ bsum o a b i < 2 ^ i
  | 0 => by simp [bsum]
  | i + 1 => by
    have ih := bsum_in o a b i
    have hp : (0 : Int) < 2 ^ i := Int.pow_pos (by decide)
    rw [bsum, Int.pow_succ]
    rcases bitM_01 o (bat_01 a i) (bat_01 b i) with h | h <;> rw [h] <;> omega
/-! ### bits, all at once -/
theorem uns_bv {a : Int} (ha : i32 a) : uns a = ((BitVec.ofInt 32 a).toNat : Int) := by
  rw [BitVec.toNat_ofInt]
  unfold i32 at ha
  simp only [show ((2 ^ 32 : Nat) : Int) = 4294967296 by decide]
  unfold uns; split <;> omega
def b2i (b : Bool) : Int := if b then 1 else 0
theorem bat_bv {a : Int} (ha : i32 a) (i : Nat) : bat a i = b2i ((BitVec.ofInt 32 a).getLsbD i) := by
  unfold bat b2i
  rw [uns_bv ha, BitVec.getLsbD, Nat.testBit_eq_decide_div_mod_eq]
  generalize (BitVec.ofInt 32 a).toNat = x
  have : (x : Int) / 2 ^ i = ((x / 2 ^ i : Nat) : Int) := by simp
  rw [this]
  by_cases h : x / 2 ^ i % 2 = 1
  · simp [h]; omega
  · simp [h]; omega
theorem bsum_bv (o : Int) (f : Bool → Bool → Bool) (hf : ∀ x y, bitM o (b2i x) (b2i y) = b2i (f x y)) {a b : Int} (ha : i32 a) (hb : i32 b) (z : BitVec 32)
    (hz : ∀ i, i < 32 → z.getLsbD i = f ((BitVec.ofInt 32 a).getLsbD i) ((BitVec.ofInt 32 b).getLsbD i)) : ∀ i, i ≤ 32 → bsum o a b i = ((z.toNat % 2 ^ i : Nat) : Int)
  | 0, _ => by simp [bsum, Nat.mod_one]
  | i + 1, hi => by
    have ih := bsum_bv o f hf ha hb z hz i (by omega)
    have h1 := hz i (by omega)
    rw [BitVec.getLsbD, Nat.testBit_eq_decide_div_mod_eq] at h1
    rw [bsum, ih, bat_bv ha, bat_bv hb, hf, ← h1, Nat.mod_pow_succ]
    have h2 : z.toNat / 2 ^ i % 2 = 0 ∨ z.toNat / 2 ^ i % 2 = 1 := by omega
    rcases h2 with h2 | h2
    · simp [b2i, h2]
    · simp [b2i, h2]
theorem bsum_eq (o : Int) (f : Bool → Bool → Bool) (hf : ∀ x y, bitM o (b2i x) (b2i y) = b2i (f x y)) {a b : Int} (ha : i32 a) (hb : i32 b) (z : BitVec 32)
    (hz : ∀ i, i < 32 → z.getLsbD i = f ((BitVec.ofInt 32 a).getLsbD i) ((BitVec.ofInt 32 b).getLsbD i)) : w32 (bsum o a b 32) = IntKind.i32.wrap (z.toNat : Int) := by
  rw [bsum_bv o f hf ha hb z hz 32 (Nat.le_refl _), Nat.mod_eq_of_lt z.isLt]; rfl
theorem band_eq {a b : Int} (ha : i32 a) (hb : i32 b) : w32 (bsum 9 a b 32) = band a b :=
  bsum_eq 9 (· && ·) (by intro x y; cases x <;> cases y <;> decide) ha hb (BitVec.ofInt 32 a &&& BitVec.ofInt 32 b) (fun i _ => BitVec.getLsbD_and)
theorem bor_eq {a b : Int} (ha : i32 a) (hb : i32 b) : w32 (bsum 10 a b 32) = bor a b :=
  bsum_eq 10 (· || ·) (by intro x y; cases x <;> cases y <;> decide) ha hb (BitVec.ofInt 32 a ||| BitVec.ofInt 32 b) (fun i _ => BitVec.getLsbD_or)
theorem bxor_eq {a b : Int} (ha : i32 a) (hb : i32 b) : w32 (bsum 11 a b 32) = bxor a b :=
  bsum_eq 11 (fun x y => x ^^ y) (by intro x y; cases x <;> cases y <;> decide) ha hb (BitVec.ofInt 32 a ^^^ BitVec.ofInt 32 b) (fun i _ => BitVec.getLsbD_xor)
theorem bnot_eq {a b : Int} (ha : i32 a) (hb : i32 b) : w32 (bsum 25 a b 32) = bnot a :=
  bsum_eq 25 (fun x _ => !x) (by intro x y; cases x <;> cases y <;> decide) ha hb (BitVec.ofInt 32 (-1) ^^^ BitVec.ofInt 32 a) (fun i hi => by
    rw [BitVec.getLsbD_xor, show BitVec.ofInt 32 (-1) = BitVec.allOnes 32 by decide, BitVec.getLsbD_allOnes]; simp [hi])

def convC (t v : Int) : Option Int := if t = 1 ∨ t = 2 ∧ 0 ≤ v ∧ v ≤ 255 ∨ t = 3 ∧ 0 ≤ v ∧ v ≤ 1 then some v else none
end Go.Proofs.Ytbdjbmbghfbenaa
