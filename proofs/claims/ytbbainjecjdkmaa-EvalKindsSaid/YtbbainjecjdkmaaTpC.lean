/-
  (TpC: operations that touch no memory, and one symbolic step.)
-/
import Derived.Test.YtbbainjecjdkmaaTpB
namespace Go.Tp
open Go Go.RowKit

/-! ### runs of small things -/
section
variable {P : Program} {w : World} {t : TypeId} {ti : TI}
theorem run_underlying (h : TI.Ok P t ti) : (underlying t).run P w = .ok ti.d w := by simp [underlying, h.und]
theorem run_typeInfo {x : TypeInfo} (h : P.info? t = some x) : (typeInfo t).run P w = .ok x w := by simp [typeInfo, h]
theorem run_sizeOf (h : TI.Ok P t ti) : (sizeOf t).run P w = .ok ti.size w := by
  obtain ⟨x, z, h1, h2, h3, h4, h5⟩ := h.info
  simp [sizeOf, run_typeInfo h1, h2]
theorem run_isAgg (h : TI.Ok P t ti) : (isAgg t).run P w = .ok ti.agg w := by
  rw [← h.agg]
  simp only [isAgg, Sem.run_bind, run_underlying h, Result.andThen_ok]
  cases ti.d <;> rfl
theorem run_zeroCells (h : TI.Ok P t ti) : ∃ z, (zeroValue t).run P w = .ok z w ∧ z.cells.toList = ti.zero := by
  obtain ⟨x, z, h1, h2, h3, h4, h5⟩ := h.info
  exact ⟨z, by simp [zeroValue, run_typeInfo h1, h4], h5⟩
end

/-! ### lists by parts, evaluated whole -/
def subL : List Value → Nat → Nat → Option (List Value)
  | _, 0, 0 => some []
  | [], _, _ => none
  | c :: cs, 0, n + 1 => match subL cs 0 n with
    | some r => some (c :: r)
    | none => none
  | _ :: cs, k + 1, n => subL cs k n
theorem subL_spec : ∀ (cs : List Value) (k n : Nat) {r : List Value}, subL cs k n = some r → r.length = n ∧ k + n ≤ cs.length ∧ ∀ i, i < n → r[i]? = cs[k + i]?
  | [], 0, 0, r, h => by simp [subL] at h; subst h; exact ⟨rfl, Nat.le_refl _, fun i hi => by omega⟩
  | _ :: _, 0, 0, r, h => by simp [subL] at h; subst h; exact ⟨rfl, by simp, fun i hi => by omega⟩
  | [], k + 1, 0, r, h => by simp [subL] at h
  | [], 0, n + 1, r, h => by simp [subL] at h
  | [], k + 1, n + 1, r, h => by simp [subL] at h
  | c :: cs, 0, n + 1, r, h => by
    simp only [subL] at h
    split at h
    · rename_i r' hr
      injection h with h; subst h
      obtain ⟨h1, h2, h3⟩ := subL_spec cs 0 n hr
      refine ⟨by simp [h1], by simp; omega, fun i hi => ?_⟩
      cases i with
      | zero => simp
      | succ i =>
        have := h3 i (by omega)
        simp only [Nat.zero_add] at this ⊢
        simpa using this
    · cases h
  | c :: cs, k + 1, n, r, h => by
    have h' : subL cs k n = some r := by cases n <;> simpa [subL] using h
    obtain ⟨h1, h2, h3⟩ := subL_spec cs k n h'
    refine ⟨h1, by simp; omega, fun i hi => ?_⟩
    have := h3 i hi
    rw [this, show k + 1 + i = (k + i) + 1 by omega]
    simp

def updL : List Value → Nat → List Value → Option (List Value)
  | cs, 0, [] => some cs
  | c :: cs, 0, v :: vs => match updL cs 0 vs with
    | some r => some (v :: r)
    | none => none
  | c :: cs, k + 1, vs => match updL cs k vs with
    | some r => some (c :: r)
    | none => none
  | [], _, _ => none
theorem updL_spec : ∀ (cs : List Value) (k : Nat) (vs : List Value) {r : List Value}, updL cs k vs = some r → k + vs.length ≤ cs.length ∧ r.length = cs.length ∧ ∀ i, r[i]? = if k ≤ i ∧ i < k + vs.length then vs[i - k]? else cs[i]?
  | cs, 0, [], r, h => by
    have h : r = cs := by cases cs <;> (simp [updL] at h; first | exact h | exact h.symm)
    subst h
    refine ⟨by simp, rfl, fun i => ?_⟩
    rw [if_neg (by simp)]
  | [], 0, v :: vs, r, h => by simp [updL] at h
  | [], k + 1, vs, r, h => by simp [updL] at h
  | c :: cs, 0, v :: vs, r, h => by
    simp only [updL] at h
    split at h
    · rename_i r' hr
      injection h with h; subst h
      obtain ⟨h1, h2, h3⟩ := updL_spec cs 0 vs hr
      refine ⟨by simp at *; omega, by simp [h2], fun i => ?_⟩
      cases i with
      | zero => simp
      | succ i =>
        have := h3 i
        simp only [List.getElem?_cons_succ, this, List.length_cons]
        by_cases hi : i < vs.length
        · rw [if_pos (by omega), if_pos (by omega)]; simp
        · rw [if_neg (by omega), if_neg (by omega)]
    · cases h
  | c :: cs, k + 1, vs, r, h => by
    simp only [updL] at h
    split at h
    · rename_i r' hr
      injection h with h; subst h
      obtain ⟨h1, h2, h3⟩ := updL_spec cs k vs hr
      refine ⟨by simp; omega, by simp [h2], fun i => ?_⟩
      cases i with
      | zero => simp
      | succ i =>
        have := h3 i
        simp only [List.getElem?_cons_succ, this]
        by_cases hi : k ≤ i ∧ i < k + vs.length
        · rw [if_pos hi, if_pos (by omega)]; congr 1; omega
        · rw [if_neg hi, if_neg (by omega)]
    · cases h

/-! ### values -/
def ikEq : IntKind → IntKind → Bool
  | .i8, .i8 => true
  | .i16, .i16 => true
  | .i32, .i32 => true
  | .i64, .i64 => true
  | .u8, .u8 => true
  | .u16, .u16 => true
  | .u32, .u32 => true
  | .u64, .u64 => true
  | _, _ => false
theorem ikEq_eq {a b : IntKind} (h : ikEq a b = true) : a = b := by cases a <;> cases b <;> first | rfl | cases h

def bitsOf (op : BinOp) (k : IntKind) (x y : Int) : Int :=
  let a := BitVec.ofInt k.bits x
  let b := BitVec.ofInt k.bits y
  match op with
  | .and => k.wrap (a &&& b).toNat
  | .or => k.wrap (a ||| b).toNat
  | .xor => k.wrap (a ^^^ b).toNat
  | _ => k.wrap (a &&& ~~~b).toNat

def intop (op : BinOp) (k : IntKind) (a b : Int) : Option Value :=
  match op with
  | .add => some (.int k (k.wrap (a + b)))
  | .sub => some (.int k (k.wrap (a - b)))
  | .mul => some (.int k (k.wrap (a * b)))
  | .and => some (.int k (bitsOf .and k a b))
  | .or => some (.int k (bitsOf .or k a b))
  | .xor => some (.int k (bitsOf .xor k a b))
  | .andNot => some (.int k (bitsOf .andNot k a b))
  | .eql => some (.bool (a == b))
  | .neq => some (.bool (a != b))
  | .lss => some (.bool (decide (a < b)))
  | .leq => some (.bool (decide (a ≤ b)))
  | .gtr => some (.bool (decide (b < a)))
  | .geq => some (.bool (decide (b ≤ a)))
  | _ => none

def strop (op : BinOp) (a b : ByteArray) : Option Value :=
  match op with
  | .eql => some (.bool (a.toList == b.toList))
  | .neq => some (.bool (!(a.toList == b.toList)))
  | _ => none

def binv (S : TT) (op : BinOp) (t : TypeId) : Value → Value → Option Value
  | .int k a, .int k' b => match ikEq k k' with
    | true => intop op k a b
    | false => none
  | .bool a, .bool b => match S.get t with
    | some ti => match ti.d with
      | .bool => match op with
        | .eql => some (.bool (a == b))
        | .neq => some (.bool (!(a == b)))
        | _ => none
      | _ => none
    | none => none
  | .string a, .string b => strop op a b
  | .func _ _ _, .nilFunc => match S.get t with
    | some ti => match ti.d with
      | .func _ _ _ => match op with
        | .eql => some (.bool false)
        | .neq => some (.bool true)
        | _ => none
      | _ => none
    | none => none
  | .nilFunc, .nilFunc => match S.get t with
    | some ti => match ti.d with
      | .func _ _ _ => match op with
        | .eql => some (.bool true)
        | .neq => some (.bool false)
        | _ => none
      | _ => none
    | none => none
  | _, _ => none

def unv (op : UnOp) : Value → Option Value
  | .bool b => match op with
    | .not => some (.bool (!b))
    | _ => none
  | .int k n => match op with
    | .neg => some (.int k (k.wrap (0 - n)))
    | .xor => some (.int k (bitsOf .xor k (if k.signed then -1 else k.max) n))
    | _ => none
  | _ => none

def convv (S : TT) (s d : TypeId) : Value → Option Value
  | .int _ n => match S.get s with
    | some _ => match S.get d with
      | some di => match di.d with
        | .int k => some (.int k (k.wrap n))
        | _ => none
      | none => none
    | none => none
  | _ => none

def fieldOf (S : TT) (t : TypeId) (i : Nat) : Option (Nat × TI) :=
  match S.get t with
  | some ti => match ti.d with
    | .struct fs => match nthL fs.toList i with
      | some ⟨_, ty, off, _, _, _, _⟩ => match S.get ty with
        | some fi => some (off, fi)
        | none => none
      | none => none
    | _ => none
  | none => none

/-- a part of a row of cells, as a value -/
def partv (fi : TI) (cs : List Value) (off : Nat) : Option Value :=
  match fi.agg with
  | true => match subL cs off fi.size with
    | some r => some (.agg ⟨r⟩)
    | none => none
  | false => nthL cs off

def fieldv (S : TT) (t : TypeId) (i : Nat) : Value → Option Value
  | .agg cs => match fieldOf S t i with
    | some (off, fi) => partv fi cs.toList off
    | none => none
  | _ => none

def fieldAddrv (S : TT) (t : TypeId) (i : Nat) : Value → Option Value
  | .pointer (some ⟨b, o, none⟩) => match fieldOf S t i with
    | some (off, fi) => match Nat.beq fi.size 0 with
      | true => none
      | false => some (.pointer (some ⟨b, o + off, none⟩))
    | none => none
  | _ => none

def cellsL (v : Value) : List Value := match v with
  | .agg cs => cs.toList
  | v => [v]
theorem cellsL_eq (v : Value) : cellsL v = v.cells.toList := by cases v <;> rfl

/-- the parts of a struct or of a row of elements laid over zeros; 'place': where a part lies, and its size -/
def layL (place : Nat → Option (Nat × Nat)) (ρ : Operand → Option Value) : List (Nat × Operand) → List Value → Option (List Value)
  | [], cs => some cs
  | (i, x) :: r, cs => match ρ x with
    | some v => match place i with
      | some (off, size) => match Nat.beq (cellsL v).length size with
        | true => match updL cs off (cellsL v) with
          | some cs' => layL place ρ r cs'
          | none => none
        | false => none
      | none => none
    | none => none

def structPlace (S : TT) (fs : List Field) (i : Nat) : Option (Nat × Nat) :=
  match nthL fs i with
  | some f => match S.get f.type with
    | some fi => some (f.offset, fi.size)
    | none => none
  | none => none
def allTyped (S : TT) : List Field → Bool
  | [] => true
  | f :: r => match S.get f.type with
    | some _ => allTyped S r
    | none => false

def buildv (S : TT) (ρ : Operand → Option Value) (t : TypeId) (parts : List (Nat × Operand)) : Option Value :=
  match S.get t with
  | some ti => match ti.d with
    | .struct fs => match allTyped S fs.toList with
      | true => match layL (structPlace S fs.toList) ρ parts ti.zero with
        | some r => some (.agg ⟨r⟩)
        | none => none
      | false => none
    | .array _ el => match S.get el with
      | some ei => match layL (fun i => some (i * ei.size, ei.size)) ρ parts ti.zero with
        | some r => some (.agg ⟨r⟩)
        | none => none
      | none => none
    | _ => none
  | none => none

def evs (ρ : Operand → Option Value) : List Operand → Option (List Value)
  | [] => some []
  | x :: r => match ρ x with
    | some v => match evs ρ r with
      | some vs => some (v :: vs)
      | none => none
    | none => none

def lenv (S : TT) (t : TypeId) : Value → Option Value
  | .slice _ n _ => match S.get t with
    | some ti => match ti.d with
      | .slice _ => some (.int .i64 (n : Int))
      | _ => none
    | none => none
  | .string s => match S.get t with
    | some ti => match ti.d with
      | .string => some (.int .i64 (s.size : Int))
      | _ => none
    | none => none
  | _ => none

def builtinv (S : TT) (b : Builtin) (ts : List TypeId) (vs : List Value) : Option Value :=
  match b with
  | .len => match ts with
    | [t] => match vs with
      | [v] => lenv S t v
      | _ => none
    | _ => none
  | .max => match vs with
    | [.int k x, .int _ y] => some (.int k (if y > x then y else x))
    | _ => none
  | .min => match vs with
    | [.int k x, .int _ y] => some (.int k (if y < x then y else x))
    | _ => none
  | _ => none

def pv (S : TT) (ρ : Operand → Option Value) : Op → Option Value
  | .move x => ρ x
  | .assign x => ρ x
  | .pick c a b => match ρ c with
    | some (.bool g) => match ρ a with
      | some (.bool x) => match ρ b with
        | some (.bool y) => some (.bool (bif g then x else y))
        | _ => none
      | _ => none
    | _ => none
  | .binOp op t x y _ => match ρ x with
    | some a => match ρ y with
      | some b => binv S op t a b
      | none => none
    | none => none
  | .unOp op _ x => match ρ x with
    | some a => unv op a
    | none => none
  | .convert s d x => match ρ x with
    | some a => convv S s d a
    | none => none
  | .field t x i => match ρ x with
    | some a => fieldv S t i a
    | none => none
  | .fieldAddr t x i => match ρ x with
    | some a => fieldAddrv S t i a
    | none => none
  | .extract x i => match ρ x with
    | some (.tuple vs) => nthL vs.toList i
    | _ => none
  | .build t parts => buildv S ρ t parts.toList
  | .makeFunc fn first cap => match evs ρ first.toList with
    | some a => match evs ρ cap.toList with
      | some b => some (.func fn ⟨a⟩ ⟨b⟩)
      | none => none
    | none => none
  | .nilCheck x => match ρ x with
    | some (.pointer (some a)) => some (.pointer (some a))
    | some (.func (.func f) a b) => some (.func (.func f) a b)
    | _ => none
  | .call c => match c.callee with
    | .builtin b => match evs ρ c.args.toList with
      | some vs => builtinv S b c.argTypes.toList vs
      | none => none
    | _ => none
  | _ => none

/-! ### soundness -/
section sound
variable {P : Program} {S : TT} {w : World} {ρ : Operand → Option Value} {σ : Operand → Value}

theorem run_intop {op : BinOp} {k : IntKind} {a b : Int} {v : Value} {t : TypeId} (h : intop op k a b = some v) : (binOp op t (.int k a) (.int k b)).run P w = .ok v w := by
  cases op <;> simp only [intop, Option.some.injEq, reduceCtorEq] at h <;> subst h <;> simp [binOp, Op.intArith, Op.intBits, Op.intCmp, bitsOf]

def noPair : Value → Bool
  | .agg _ => false
  | .nilIface => false
  | _ => true
theorem run_eqGuard {op : BinOp} {t : TypeId} {x y : Operand} {a b : Value} (h : noPair a = true) : (eqGuard op t x y a b).run P w = .ok () w := by
  cases a <;> first | (cases op <;> rfl) | exact absurd h (by simp [noPair])

theorem equal_of {t : TypeId} {x y : Value} {r : Bool} (h : ∀ d, (Op.equalIn (d + 1) t x y).run P w = .ok r w) : (Op.equal t x y).run P w = .ok r w := h 9999

theorem run_binv (hS : S.Ok P) {op : BinOp} {t : TypeId} {x y : Operand} {a b v : Value} (h : binv S op t a b = some v) :
    (do eqGuard op t x y a b; binOp op t a b : Sem Value).run P w = .ok v w := by
  unfold binv at h
  split at h
  · rename_i k a k' b
    rw [Sem.run_bind, run_eqGuard rfl, Result.andThen_ok]
    split at h
    · rename_i hk
      have hk := ikEq_eq hk; subst hk
      exact run_intop h
    · cases h
  · rename_i a b
    rw [Sem.run_bind, run_eqGuard rfl, Result.andThen_ok]
    split at h
    · rename_i ti hg
      have ok := TT.Ok.get hS hg
      split at h
      · rename_i hd
        have hu : (underlying t).run P w = .ok .bool w := by rw [run_underlying ok, hd]
        have he : (Op.equal t (.bool a) (.bool b)).run P w = .ok (a == b) w := by
          refine equal_of fun d => ?_
          simp only [Op.equalIn, Sem.run_bind, hu, Result.andThen_ok, Sem.run_pure]
        split at h
        · injection h with h; subst h; simp [binOp, he]
        · injection h with h; subst h; simp [binOp, he]
        · cases h
      · cases h
    · cases h
  · rename_i a b
    rw [Sem.run_bind, run_eqGuard rfl, Result.andThen_ok]
    unfold strop at h
    split at h
    · injection h with h; subst h; simp [binOp, Op.stringOp]
    · injection h with h; subst h; simp [binOp, Op.stringOp]
    · cases h
  · rename_i f1 f2 f3
    rw [Sem.run_bind, run_eqGuard rfl, Result.andThen_ok]
    split at h
    · rename_i ti hg
      have ok := TT.Ok.get hS hg
      split at h
      · rename_i p1 p2 p3 hd
        have hu : (underlying t).run P w = .ok (.func p1 p2 p3) w := by rw [run_underlying ok, hd]
        have he : (Op.equal t (.func f1 f2 f3) .nilFunc).run P w = .ok false w := by
          refine equal_of fun d => ?_
          simp only [Op.equalIn, Sem.run_bind, hu, Result.andThen_ok, Sem.run_pure]
        split at h
        · injection h with h; subst h; simp [binOp, he]
        · injection h with h; subst h; simp [binOp, he]
        · cases h
      · cases h
    · cases h
  · rw [Sem.run_bind, run_eqGuard rfl, Result.andThen_ok]
    split at h
    · rename_i ti hg
      have ok := TT.Ok.get hS hg
      split at h
      · rename_i p1 p2 p3 hd
        have hu : (underlying t).run P w = .ok (.func p1 p2 p3) w := by rw [run_underlying ok, hd]
        have he : (Op.equal t .nilFunc .nilFunc).run P w = .ok true w := by
          refine equal_of fun d => ?_
          simp only [Op.equalIn, Sem.run_bind, hu, Result.andThen_ok, Sem.run_pure]
        split at h
        · injection h with h; subst h; simp [binOp, he]
        · injection h with h; subst h; simp [binOp, he]
        · cases h
      · cases h
    · cases h
  · cases h

theorem run_unv {op : UnOp} {a v : Value} (h : unv op a = some v) : (Op.unary op a).run P w = .ok v w := by
  unfold unv at h
  split at h
  · split at h
    · injection h with h; subst h; simp [Op.unary]
    · cases h
  · split at h
    · injection h with h; subst h; simp [Op.unary, Op.intArith]
    · injection h with h; subst h; simp [Op.unary, Op.intBits, bitsOf]
    · cases h
  · cases h

theorem run_convv (hS : S.Ok P) {s d : TypeId} {a v : Value} (h : convv S s d a = some v) : (convert s d a).run P w = .ok v w := by
  unfold convv at h
  split at h
  · split at h
    · rename_i n si hs
      split at h
      · rename_i di hd
        split at h
        · rename_i k hk
          injection h with h; subst h
          have o1 := TT.Ok.get hS hs
          have o2 := TT.Ok.get hS hd
          simp [convert, run_underlying o1, run_underlying o2, hk, Conv.intToInt]
        · cases h
      · cases h
    · cases h
  · cases h

theorem run_part {t : TypeId} {ti : TI} (ok : TI.Ok P t ti) {cs : List Value} {off : Nat} {v : Value} (h : partv ti cs off = some v) : (part t ⟨cs⟩ off).run P w = .ok v w := by
  simp only [partv] at h
  simp only [part, Sem.run_bind, run_isAgg ok, Result.andThen_ok]
  split at h
  · rename_i hb
    split at h
    · rename_i r hr
      injection h with h; subst h
      obtain ⟨h1, h2, h3⟩ := subL_spec cs off ti.size hr
      rw [hb]
      simp only [Sem.run_bind, run_sizeOf ok, Result.andThen_ok, if_true, Sem.run_pure]
      congr 2
      have : (Array.extract ⟨cs⟩ off (off + ti.size) : Array Value) = ⟨r⟩ := by
        apply Array.ext'
        rw [Array.toList_extract]
        apply List.ext_getElem?
        intro i
        by_cases hi : i < ti.size
        · rw [h3 i hi]
          simp [List.extract_eq_take_drop, hi]
        · have : r[i]? = none := List.getElem?_eq_none (by omega)
          rw [this]
          simp only [List.extract_eq_take_drop]
          rw [List.getElem?_eq_none]
          simp; omega
      rw [this]
    · cases h
  · rename_i hb
    rw [hb]
    rw [nthL_eq] at h
    simp [h]

theorem fieldOf_spec (hS : S.Ok P) {t : TypeId} {i off : Nat} {fi : TI} (h : fieldOf S t i = some (off, fi)) :
    ∃ ti fs f, TI.Ok P t ti ∧ ti.d = .struct fs ∧ fs[i]? = some f ∧ f.offset = off ∧ TI.Ok P f.type fi := by
  unfold fieldOf at h
  split at h
  · rename_i ti hg
    split at h
    · rename_i fs hd
      split at h
      · rename_i n1 ty of1 n2 n3 n4 n5 hf
        split at h
        · rename_i fi' hfi
          injection h with h; injection h with h1 h2; subst h1; subst h2
          refine ⟨ti, fs, ⟨n1, ty, of1, n2, n3, n4, n5⟩, TT.Ok.get hS hg, hd, ?_, rfl, TT.Ok.get hS hfi⟩
          rw [nthL_eq] at hf
          rw [← Array.getElem?_toList]; exact hf
        · cases h
      · cases h
    · cases h
  · cases h

theorem run_fieldv (hS : S.Ok P) {t : TypeId} {i : Nat} {a v : Value} (h : fieldv S t i a = some v) : (Instr.field t a i).run P w = .ok v w := by
  unfold fieldv at h
  split at h
  · rename_i cs
    split at h
    · rename_i off fi hf
      obtain ⟨ti, fs, f, o1, hd, hfs, hoff, o2⟩ := fieldOf_spec hS hf
      simp only [Instr.field, Sem.run_bind, run_underlying o1, hd, Result.andThen_ok, hfs, asAgg, Sem.run_pure]
      subst hoff
      exact run_part o2 h
    · cases h
  · cases h

theorem add_norm (b o n : Nat) : (⟨b, o, none⟩ : Addr).add n = ⟨b, o + n, none⟩ := by
  unfold Addr.add
  split
  · subst n; rfl
  · rfl

theorem run_fieldAddrv (hS : S.Ok P) {t : TypeId} {i : Nat} {a v : Value} (h : fieldAddrv S t i a = some v) : (Instr.fieldAt t a i).run P w = .ok v w := by
  unfold fieldAddrv at h
  split at h
  · rename_i b o
    split at h
    · rename_i off fi hf
      obtain ⟨ti, fs, f, o1, hd, hfs, hoff, o2⟩ := fieldOf_spec hS hf
      split at h
      · cases h
      · rename_i hz
        injection h with h; subst h
        have hz := beq_false_ne hz
        simp only [Instr.fieldAt, Sem.run_bind, run_underlying o1, hd, Result.andThen_ok, hfs, Instr.sureAddr, Sem.run_pure, fieldPlace, run_sizeOf o2, if_neg hz, add_norm, hoff]
    · cases h
  · cases h

theorem evs_spec (hρ : ∀ x v, ρ x = some v → σ x = v) : ∀ {l : List Operand} {vs : List Value}, evs ρ l = some vs → l.map σ = vs
  | [], vs, h => by simp only [evs, Option.some.injEq] at h; subst h; rfl
  | x :: r, vs, h => by
    simp only [evs] at h
    split at h
    · rename_i v hv
      split at h
      · rename_i vs' hvs
        injection h with h; subst h
        simp [hρ _ _ hv, evs_spec hρ hvs]
      · cases h
    · cases h

theorem foldl_set (off : Nat) : ∀ (vs : List Value) (j : Nat) (cs : Array Value) {r : List Value}, updL cs.toList (off + j) vs = some r →
    (vs.zipIdx j).foldl (fun (cs : Array Value) (x : Value × Nat) => cs.setIfInBounds (off + x.2) x.1) cs = ⟨r⟩
  | [], j, cs, r, h => by
    obtain ⟨_, h2, h3⟩ := updL_spec _ _ _ h
    simp only [List.zipIdx_nil, List.foldl_nil]
    apply Array.ext'
    apply List.ext_getElem?
    intro i
    rw [h3 i, if_neg (by simp <;> omega)]
  | v :: vs, j, cs, r, h => by
    obtain ⟨h1, h2, h3⟩ := updL_spec _ _ _ h
    simp only [List.zipIdx_cons, List.foldl_cons]
    have : updL (cs.setIfInBounds (off + j) v).toList (off + (j + 1)) vs = some r := by
      have ex : ∃ r', updL (cs.setIfInBounds (off + j) v).toList (off + (j + 1)) vs = some r' := by
        have key : ∀ (l : List Value) (k : Nat) (us : List Value), k + us.length ≤ l.length → ∃ r', updL l k us = some r' := by
          intro l
          induction l with
          | nil => intro k us hk; simp at hk; obtain ⟨rfl, rfl⟩ := hk; exact ⟨[], by simp [updL]⟩
          | cons c l ih =>
            intro k us hk
            cases k with
            | zero =>
              cases us with
              | nil => exact ⟨c :: l, by simp [updL]⟩
              | cons u us =>
                obtain ⟨r', hr'⟩ := ih 0 us (by simp at hk; omega)
                exact ⟨u :: r', by simp [updL, hr']⟩
            | succ k =>
              obtain ⟨r', hr'⟩ := ih k us (by simp at hk; omega)
              exact ⟨c :: r', by simp [updL, hr']⟩
        exact key _ _ _ (by simp at h1 ⊢; omega)
      obtain ⟨r', hr'⟩ := ex
      obtain ⟨g1, g2, g3⟩ := updL_spec _ _ _ hr'
      rw [hr']
      congr 1
      apply List.ext_getElem?
      intro i
      rw [g3 i, h3 i]
      simp only [List.length_cons]
      by_cases hi : i = off + j
      · subst hi
        rw [if_neg (by omega), if_pos (by omega)]
        have hsz : cs.toList.length = cs.size := by simp
        simp only [List.length_cons] at h1
        rw [Array.toList_setIfInBounds, List.getElem?_set_self (by omega), Nat.sub_self]
        rfl
      · by_cases hi2 : off + (j + 1) ≤ i ∧ i < off + (j + 1) + vs.length
        · rw [if_pos hi2, if_pos (by omega)]
          rw [show i - (off + j) = (i - (off + (j + 1))) + 1 by omega]
          simp
        · rw [if_neg hi2, if_neg (by omega)]
          simp [Array.toList_setIfInBounds, List.getElem?_set_ne (Ne.symm hi)]
    exact foldl_set off vs (j + 1) _ this

theorem run_layL (hρ : ∀ x v, ρ x = some v → σ x = v) {place place' : Nat → Option (Nat × Nat)} (hp : ∀ i y, place i = some y → place' i = some y) :
    ∀ {parts : List (Nat × Operand)} {cs r : List Value}, layL place ρ parts cs = some r → Instr.fill place' ⟨cs⟩ (parts.map fun (i, x) => (i, σ x)) = some ⟨r⟩
  | [], cs, r, h => by injection h with h; subst h; rfl
  | (i, x) :: rest, cs, r, h => by
    simp only [layL] at h
    split at h
    · rename_i v hv
      split at h
      · rename_i off size hpl
        split at h
        · rename_i hsz
          have hsz := Nat.eq_of_beq_eq_true hsz
          split at h
          · rename_i cs' hu
            have hv' := hρ _ _ hv
            obtain ⟨u1, _, _⟩ := updL_spec _ _ _ hu
            simp only [List.map_cons, Instr.fill, hv', hp _ _ hpl]
            rw [cellsL_eq] at hsz u1 hu
            have e1 : v.cells.size = size := by simpa using hsz
            rw [if_neg (by simp only [e1]; simp at u1 ⊢; omega)]
            have := foldl_set off v.cells.toList 0 ⟨cs⟩ (r := cs') (by simpa using hu)
            rw [← Array.foldl_toList, Array.toList_zipIdx]
            rw [this]
            exact run_layL hρ hp h
          · cases h
        · cases h
      · cases h
    · cases h

theorem run_places (hS : S.Ok P) : ∀ {l : List Field}, allTyped S l = true →
    ∃ ps : List (Nat × Nat), (l.mapM fun f => (do pure (f.offset, ← sizeOf f.type) : Sem (Nat × Nat))).run P w = .ok ps w ∧ ∀ i, ps[i]? = structPlace S l i
  | [], _ => ⟨[], by simp, fun i => by simp [structPlace, nthL]⟩
  | f :: l, h => by
    simp only [allTyped] at h
    split at h
    · rename_i fi hfi
      obtain ⟨ps, h1, h2⟩ := run_places hS h
      refine ⟨(f.offset, fi.size) :: ps, by simp only [List.mapM_cons, Sem.run_bind, run_sizeOf (TT.Ok.get hS hfi), Result.andThen_ok, Sem.run_pure, h1], fun i => ?_⟩
      cases i with
      | zero => simp [structPlace, nthL, hfi]
      | succ i => simp only [List.getElem?_cons_succ, h2]; rfl
    · cases h

theorem run_buildv (hS : S.Ok P) (hρ : ∀ x v, ρ x = some v → σ x = v) {t : TypeId} {parts : Array (Nat × Operand)} {v : Value} (h : buildv S ρ t parts.toList = some v) :
    (Instr.build t (parts.map fun (i, x) => (i, σ x))).run P w = .ok v w := by
  unfold buildv at h
  split at h
  · rename_i ti hg
    have ok := TT.Ok.get hS hg
    obtain ⟨z, hz, hzl⟩ := run_zeroCells (w := w) ok
    have hzl' : z.cells = ⟨ti.zero⟩ := by rw [← hzl]
    split at h
    · rename_i fs hd
      split at h
      · rename_i hall
        split at h
        · rename_i r hr
          injection h with h; subst h
          obtain ⟨ps, hps, hpl⟩ := run_places (w := w) hS hall
          have hm : (fs.mapM fun f => (do pure (f.offset, ← sizeOf f.type) : Sem (Nat × Nat))).run P w = .ok ⟨ps⟩ w := by
            rw [Array.mapM_eq_mapM_toList, Sem.run_map, hps]
            rfl
          have hf := run_layL (place' := fun i => (⟨ps⟩ : Array (Nat × Nat))[i]?) hρ (fun i y hy => by simp only [List.getElem?_toArray]; rw [hpl]; exact hy) hr
          have hf' : Instr.fill (fun x => (⟨ps⟩ : Array (Nat × Nat))[x]?) ⟨ti.zero⟩ (parts.map fun (x : Nat × Operand) => (x.1, σ x.2)).toList = some ⟨r⟩ := by
            rw [Array.toList_map]; exact hf
          simp only [Instr.build, Sem.run_bind, hz, run_underlying ok, hd, Result.andThen_ok, hm, hzl', hf', Sem.run_pure]
        · cases h
      · cases h
    · rename_i n el hd
      split at h
      · rename_i ei hei
        have oke := TT.Ok.get hS hei
        split at h
        · rename_i r hr
          injection h with h; subst h
          have hf := run_layL (place' := fun i => some (i * ei.size, ei.size)) hρ (fun i y hy => hy) hr
          have hf' : Instr.fill (fun i => some (i * ei.size, ei.size)) ⟨ti.zero⟩ (parts.map fun (x : Nat × Operand) => (x.1, σ x.2)).toList = some ⟨r⟩ := by
            rw [Array.toList_map]; exact hf
          simp only [Instr.build, Sem.run_bind, hz, run_underlying ok, hd, run_sizeOf oke, Result.andThen_ok, hzl', hf', Sem.run_pure]
        · cases h
      · cases h
    · cases h
  · cases h

theorem run_builtinv (hS : S.Ok P) {b : Builtin} {ts : Array TypeId} {ty : TypeId} {cn : Array Bool} {vs : List Value} {v : Value} (h : builtinv S b ts.toList vs = some v) :
    (builtin b ts ty cn ⟨vs⟩).run P w = .ok (.value v) w := by
  unfold builtinv at h
  split at h
  · split at h
    · rename_i t hts
      have hts : ts = #[t] := by apply Array.ext'; simpa using hts
      subst hts
      split at h
      · rename_i x
        unfold lenv at h
        split at h
        · split at h
          · rename_i ti hg
            have ok := TT.Ok.get hS hg
            split at h
            · rename_i el hd
              injection h with h; subst h
              simp [builtin, Builtin.len_, run_underlying ok, hd, goInt]
            · cases h
          · cases h
        · split at h
          · rename_i ti hg
            have ok := TT.Ok.get hS hg
            split at h
            · rename_i hd
              injection h with h; subst h
              simp [builtin, Builtin.len_, run_underlying ok, hd, goInt]
            · cases h
          · cases h
        · cases h
      · cases h
    · cases h
  · split at h
    · injection h with h; subst h
      simp [builtin, Builtin.max_, Builtin.max2]
    · cases h
  · split at h
    · injection h with h; subst h
      simp [builtin, Builtin.min_, Builtin.min2]
    · cases h
  · cases h

theorem run_pv (hS : S.Ok P) (hρ : ∀ x v, ρ x = some v → σ x = v) {o : Oper} {v : Value} (h : pv S ρ o.op = some v) : (execOp σ o).run P w = .ok (.value v) w := by
  unfold execOp
  cases hop : o.op <;> rw [hop] at h <;> simp only [pv, reduceCtorEq] at h
  case move x => simp [hρ _ _ h]
  case assign x => simp [hρ _ _ h]
  case pick c a b =>
    split at h
    · rename_i g hg
      split at h
      · rename_i x hx
        split at h
        · rename_i y hy
          injection h with h; subst h
          simp only [hρ _ _ hg, hρ _ _ hx, hρ _ _ hy, asBool]
          cases g <;> simp
        · cases h
      · cases h
    · cases h
  case binOp op t x y yt =>
    split at h
    · rename_i a ha
      split at h
      · rename_i b hb
        have := run_binv (w := w) hS (x := x) (y := y) h
        simp only [hρ _ _ ha, hρ _ _ hb]
        rw [Sem.run_bind, this]; rfl
      · cases h
    · cases h
  case unOp op t x =>
    split at h
    · rename_i a ha
      simp [hρ _ _ ha, run_unv h]
    · cases h
  case convert s d x =>
    split at h
    · rename_i a ha
      simp [hρ _ _ ha, run_convv hS h]
    · cases h
  case field t x i =>
    split at h
    · rename_i a ha
      simp [hρ _ _ ha, run_fieldv hS h]
    · cases h
  case fieldAddr t x i =>
    split at h
    · rename_i a ha
      simp [hρ _ _ ha, run_fieldAddrv hS h]
    · cases h
  case extract x i =>
    split at h
    · rename_i vs hvs
      rw [nthL_eq] at h
      have : vs[i]? = some v := by rw [← Array.getElem?_toList]; exact h
      simp [hρ _ _ hvs, Instr.extract, this]
    · cases h
  case build t parts =>
    have := run_buildv (w := w) hS hρ h
    simp only [Sem.run_bind, this, Result.andThen_ok, Sem.run_pure]
  case makeFunc fn first cap =>
    split at h
    · rename_i a ha
      split at h
      · rename_i b hb
        injection h with h; subst h
        have e1 : first.map σ = ⟨a⟩ := by apply Array.ext'; rw [Array.toList_map]; exact evs_spec hρ ha
        have e2 : cap.map σ = ⟨b⟩ := by apply Array.ext'; rw [Array.toList_map]; exact evs_spec hρ hb
        simp [Instr.makeFunc, e1, e2]
      · cases h
    · cases h
  case nilCheck x =>
    split at h
    · rename_i a ha
      injection h with h; subst h
      simp [hρ _ _ ha]
    · rename_i f a b ha
      injection h with h; subst h
      simp [hρ _ _ ha]
    · cases h
  case call c =>
    split at h
    · rename_i b hb
      split at h
      · rename_i vs hvs
        have e1 : c.args.map σ = ⟨vs⟩ := by apply Array.ext'; rw [Array.toList_map]; exact evs_spec hρ hvs
        simp [resolve, hb, invoke, e1, run_builtinv hS h]
      · cases h
    · cases h

end sound

/-- a choice by a slot's truth value: each side is known under it alone -/
def pickv (e : Env) (ks : List (Nat × Bool)) (t : Nat) (x y : Operand) : Option Value := match e.ev ks (.tmp t) with
  | some (.bool g) => match e.ev (chain e.cs 6 (t, true) ++ ks) x with
    | some (.bool p) => match e.ev (chain e.cs 6 (t, false) ++ ks) y with
      | some (.bool q) => some (.bool (bif g then p else q))
      | _ => none
    | _ => none
  | _ => none
def pve (S : TT) (e : Env) (ks : List (Nat × Bool)) (op : Op) : Option Value := match op with
  | .pick (.tmp t) x y => pickv e ks t x y
  | op => pv S (e.ev ks) op

theorem Ag.ev_get {n : Nat} {e : Env} {a : Act} {ks : List (Nat × Bool)} (g : Ag n e a) (hk : keysOk a ks) {t : Nat} {v : Value} (hx : e.ev ks (.tmp t) = some v) : a.tmps[t]? = some v := by
  simp only [Env.ev] at hx
  split at hx
  · rename_i u hu
    injection hx with hx; subst hx
    exact g.us t _ hu
  · split at hx
    · rename_i c u hu
      split at hx
      · rename_i hc
        injection hx with hx; subst hx
        obtain ⟨gg, b⟩ := c
        exact (g.cs t gg b _ hu).1 (hk _ _ (inKeys_mem hc))
      · cases hx
    · cases hx

theorem keysOk_append {a : Act} {k1 k2 : List (Nat × Bool)} (h1 : keysOk a k1) (h2 : keysOk a k2) : keysOk a (k1 ++ k2) := fun g b hm => by
  rcases List.mem_append.1 hm with h | h
  · exact h1 _ _ h
  · exact h2 _ _ h

theorem run_pve {P : Program} {S : TT} {w : World} {n : Nat} {e : Env} {a : Act} {ks : List (Nat × Bool)} (hS : S.Ok P) (g : Ag n e a) (hk : keysOk a ks) {o : Oper} {v : Value} (h : pve S e ks o.op = some v) : (execOp a.eval o).run P w = .ok (.value v) w := by
  unfold pve at h
  split at h
  · rename_i t x y hop
    unfold pickv at h
    split at h
    · rename_i b hb
      split at h
      · rename_i p hp
        split at h
        · rename_i q hq
          injection h with h; subst h
          have ht := g.ev_get hk hb
          unfold execOp
          rw [hop]
          simp only [g.ev hk hb, asBool]
          cases b with
          | true =>
            have hk' : keysOk a (chain e.cs 6 (t, true) ++ ks) := keysOk_append (g.chain 6 (t, true) ht) hk
            simp [g.ev hk' hp]
          | false =>
            have hk' : keysOk a (chain e.cs 6 (t, false) ++ ks) := keysOk_append (g.chain 6 (t, false) ht) hk
            simp [g.ev hk' hq]
        · cases h
      · cases h
    · cases h
  · exact run_pv hS (fun x v hx => g.ev hk hx) h

variable {C : Cfg} {k : List It} {e : Env} {h : GH} {L : List Ent}

/-- one symbolic step: control, or an operation that touches no memory -/
def sstep (S : TT) (n : Nat) (k : List It) (e : Env) : Option (List It × Env) :=
  match k with
  | .ops all [] :: k => some (k, ⟨e.us, []⟩)
  | .ops all (o :: l) :: k => match gmode e all o.guard with
    | some (m, ks) => match pve S e ks o.op with
      | some v => match e.put n m o.dst v with
        | some e' => some (.ops all l :: k, e')
        | none => none
      | none => none
    | none => none
  | k => match cstep k with
    | some k' => some (k', e)
    | none => none

theorem V.step {k' : List It} {e' : Env} (hs : sstep C.S C.n k e = some (k', e')) (hv : V C k' e' h L) : V C k e h L := by
  unfold sstep at hs
  split at hs
  · injection hs with hs; injection hs with h1 h2; subst h1; subst h2
    exact V.opsNil hv
  · rename_i all o l k
    split at hs
    · rename_i m ks hg
      split at hs
      · rename_i v hpv
        split at hs
        · rename_i e'' hput
          injection hs with hs; injection hs with h1 h2; subst h1; subst h2
          exact V.value hg (fun a w g s hk => run_pve C.ok g hk hpv) hput hv
        · cases hs
      · cases hs
    · cases hs
  · split at hs
    · rename_i k'' hc
      injection hs with hs; injection hs with h1 h2; subst h1; subst h2
      exact hv.cstep hc
    · cases hs

#print axioms V.step
end Go.Tp
