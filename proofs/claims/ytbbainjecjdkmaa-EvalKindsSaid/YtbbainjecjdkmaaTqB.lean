/-
  (TqB: slots that hold data; operations on data.)
-/
import Derived.Test.YtbbainjecjdkmaaTqA
namespace Go.Tp
open Go Go.RowKit
set_option linter.unusedVariables false
set_option linter.unusedSimpArgs false

/-! ### slots -/
abbrev Ua := List (Nat × AV)
abbrev Ka := List (Nat × (Nat × Bool) × AV)
structure AEnv where
  us : Ua
  cs : Ka := []
def lookA : Ua → Nat → Option AV
  | [], _ => none
  | (k, v) :: r, t => match Nat.beq k t with | true => some v | false => lookA r t
def lookK : Ka → Nat → Option ((Nat × Bool) × AV)
  | [], _ => none
  | (k, c, v) :: r, t => match Nat.beq k t with | true => some (c, v) | false => lookK r t
def freeK : Ka → Nat → Bool
  | [], _ => true
  | (k, (g, _), _) :: r, t => match Nat.beq k t with | true => false | false => match Nat.beq g t with | true => false | false => freeK r t
def chainK (cs : Ka) : Nat → Nat × Bool → List (Nat × Bool)
  | 0, k => [k]
  | f + 1, k => match lookK cs k.1 with
    | some (k', _) => k :: chainK cs f k'
    | none => [k]

def RpU (h : GH) : Ua → Us → Prop
  | [], us => us = []
  | (k, x) :: r, us => ∃ v us', us = (k, v) :: us' ∧ Rp h x v ∧ RpU h r us'
def RpK (h : GH) : Ka → Cs → Prop
  | [], cs => cs = []
  | (k, g, x) :: r, cs => ∃ v cs', cs = (k, g, v) :: cs' ∧ Rp h x v ∧ RpK h r cs'
def RpEnv (h : GH) (E : AEnv) (e : Env) : Prop := RpU h E.us e.us ∧ RpK h E.cs e.cs
theorem RpU.mono {h h' : GH} (hl : h.le h') : ∀ {U : Ua} {us : Us}, RpU h U us → RpU h' U us
  | [], _, r => r
  | (k, x) :: U, _, ⟨v, us', h1, h2, h3⟩ => ⟨v, us', h1, h2.mono hl, RpU.mono hl h3⟩
theorem RpK.mono {h h' : GH} (hl : h.le h') : ∀ {U : Ka} {us : Cs}, RpK h U us → RpK h' U us
  | [], _, r => r
  | (k, g, x) :: U, _, ⟨v, us', h1, h2, h3⟩ => ⟨v, us', h1, h2.mono hl, RpK.mono hl h3⟩
theorem RpEnv.mono {h h' : GH} (hl : h.le h') {E : AEnv} {e : Env} (r : RpEnv h E e) : RpEnv h' E e := ⟨r.1.mono hl, r.2.mono hl⟩

section
variable {h : GH}
theorem RpU.look : ∀ {U : Ua} {us : Us}, RpU h U us → ∀ t, (∃ x v, lookA U t = some x ∧ Go.Tp.look us t = some v ∧ Rp h x v) ∨ (lookA U t = none ∧ Go.Tp.look us t = none)
  | [], _, r, t => by cases r; exact .inr ⟨rfl, rfl⟩
  | (k, x) :: U, _, ⟨v, us', h1, h2, h3⟩, t => by
    subst h1
    simp only [lookA, Go.Tp.look]
    cases Nat.beq k t with
    | true => exact .inl ⟨x, v, rfl, rfl, h2⟩
    | false => exact RpU.look h3 t
theorem RpK.look : ∀ {U : Ka} {us : Cs}, RpK h U us → ∀ t, (∃ c x v, lookK U t = some (c, x) ∧ lookc us t = some (c, v) ∧ Rp h x v) ∨ (lookK U t = none ∧ lookc us t = none)
  | [], _, r, t => by cases r; exact .inr ⟨rfl, rfl⟩
  | (k, g, x) :: U, _, ⟨v, us', h1, h2, h3⟩, t => by
    subst h1
    simp only [lookK, lookc]
    cases Nat.beq k t with
    | true => exact .inl ⟨g, x, v, rfl, rfl, h2⟩
    | false => exact RpK.look h3 t
theorem RpK.free : ∀ {U : Ka} {us : Cs}, RpK h U us → ∀ t, freeK U t = freeOf us t
  | [], _, r, t => by cases r; rfl
  | (k, (g, b), x) :: U, _, ⟨v, us', h1, h2, h3⟩, t => by
    subst h1
    simp only [freeK, freeOf, RpK.free h3 t]
    cases Nat.beq k t <;> simp only
    cases Nat.beq g t <;> rfl
theorem RpK.chain {U : Ka} {us : Cs} (r : RpK h U us) : ∀ (f : Nat) (k : Nat × Bool), chainK U f k = Go.Tp.chain us f k
  | 0, k => rfl
  | f + 1, k => by
    simp only [chainK, Go.Tp.chain]
    rcases r.look k.1 with ⟨c, x, v, e1, e2, _⟩ | ⟨e1, e2⟩
    · rw [e1, e2]; simp only [RpK.chain r f c]
    · rw [e1, e2]
end

/-! ### operands -/
def constA (v : Value) : Option AV := match v with
  | .agg ⟨cs⟩ => match allOne cs with
    | true => some (.ag (cs.map .v))
    | false => none
  | .tuple _ => none
  | .func (.func f) ⟨[]⟩ ⟨[]⟩ => some (.fn f [] [])
  | x => some (.v x)
def GsOk (h : GH) (gs : Ua) : Prop := ∀ g x, lookA gs g = some x → Rp h x (.pointer (some ⟨g, 0, none⟩))
theorem GsOk.mono {h h' : GH} (hl : h.le h') {gs : Ua} (r : GsOk h gs) : GsOk h' gs := fun g x hx => (r g x hx).mono hl

def AEnv.ev (gs : Ua) (e : AEnv) (ks : List (Nat × Bool)) : Operand → Option AV
  | .tmp t => match lookA e.us t with
    | some v => some v
    | none => match lookK e.cs t with
      | some (c, v) => match inKeys ks c with | true => some v | false => none
      | none => none
  | .const v => constA v
  | .global g => match lookA gs g with
    | some x => some x
    | none => some (.v (.pointer (some ⟨g, 0, none⟩)))
  | .func f => some (.fn f [] [])

theorem RpC_v {h : GH} : ∀ {cs : List Value}, allOne cs = true → RpC h (cs.map .v) cs
  | [], _ => by rw [List.map_nil, RpC_nil]
  | x :: r, ho => by
    simp only [allOne] at ho
    split at ho
    · rename_i hx
      rw [List.map_cons, RpC_cons]
      exact ⟨x, r, rfl, Rp_v.2 ⟨rfl, hx⟩, RpC_v ho⟩
    · cases ho
theorem constA_rp {h : GH} {v : Value} {x : AV} (hc : constA v = some x) : Rp h x v := by
  unfold constA at hc
  split at hc
  · split at hc
    · rename_i ho
      injection hc with hc; subst hc
      rw [Rp_ag]; exact ⟨_, rfl, RpC_v ho⟩
    · cases hc
  · cases hc
  · injection hc with hc; subst hc
    rw [Rp_fn]; exact ⟨[], [], rfl, RpC_nil.2 rfl, RpC_nil.2 rfl⟩
  · rename_i h1 h2 _
    injection hc with hc; subst hc
    rw [Rp_v]; refine ⟨rfl, ?_⟩
    cases v with
    | agg cs => exact (h1 cs.toList rfl).elim
    | tuple cs => exact (h2 cs rfl).elim
    | _ => rfl

theorem RpEnv.ev {h : GH} {gs : Ua} {E : AEnv} {e : Env} (g : GsOk h gs) (r : RpEnv h E e) (ks : List (Nat × Bool)) {z : Operand} {x : AV} (hx : E.ev gs ks z = some x) : ∃ y, e.ev ks z = some y ∧ Rp h x y := by
  cases z with
  | tmp t =>
    simp only [AEnv.ev] at hx
    simp only [Env.ev]
    rcases r.1.look t with ⟨x', v, e1, e2, e3⟩ | ⟨e1, e2⟩
    · rw [e1] at hx; injection hx with hx; subst hx
      rw [e2]; exact ⟨v, rfl, e3⟩
    · rw [e1] at hx; rw [e2]
      rcases r.2.look t with ⟨c, x', v, g1, g2, g3⟩ | ⟨g1, g2⟩
      · rw [g1] at hx; rw [g2]
        simp only at hx ⊢
        split at hx
        · rename_i hk
          injection hx with hx; subst hx
          rw [hk]; exact ⟨v, rfl, g3⟩
        · cases hx
      · rw [g1] at hx; cases hx
  | const v => exact ⟨v, rfl, constA_rp hx⟩
  | global n =>
    simp only [AEnv.ev] at hx
    simp only [Env.ev]
    split at hx
    · rename_i x' hl
      injection hx with hx; subst hx
      exact ⟨_, rfl, g _ _ hl⟩
    · injection hx with hx; subst hx
      exact ⟨_, rfl, Rp_v.2 ⟨rfl, rfl⟩⟩
  | func f =>
    injection hx with hx; subst hx
    exact ⟨_, rfl, by rw [Rp_fn]; exact ⟨[], [], rfl, RpC_nil.2 rfl, RpC_nil.2 rfl⟩⟩

/-! ### parts of a row -/
def subA : List AV → Nat → Nat → Option (List AV)
  | _, 0, 0 => some []
  | [], _, _ => none
  | c :: cs, 0, n + 1 => match subA cs 0 n with
    | some r => some (c :: r)
    | none => none
  | _ :: cs, k + 1, n => subA cs k n
theorem subA_rp {h : GH} : ∀ {l : List AV} {vs : List Value}, RpC h l vs → ∀ {k n : Nat} {r : List AV}, subA l k n = some r → ∃ r', subL vs k n = some r' ∧ RpC h r r'
  | l, vs, q, 0, 0, r, hr => by
    have : r = [] := by cases l <;> (simp only [subA] at hr; injection hr with hr; exact hr.symm)
    subst this
    exact ⟨[], by cases vs <;> rfl, RpC_nil.2 rfl⟩
  | [], vs, q, k + 1, n, r, hr => by simp [subA] at hr
  | [], vs, q, 0, n + 1, r, hr => by simp [subA] at hr
  | x :: l, vs, q, 0, n + 1, r, hr => by
    rw [RpC_cons] at q
    obtain ⟨v, vs', rfl, a1, a2⟩ := q
    simp only [subA] at hr
    split at hr
    · rename_i r1 h1
      injection hr with hr; subst hr
      obtain ⟨r', e1, e2⟩ := subA_rp a2 h1
      exact ⟨v :: r', by simp only [subL, e1], RpC_cons.2 ⟨v, r', rfl, a1, e2⟩⟩
    · cases hr
  | x :: l, vs, q, k + 1, n, r, hr => by
    rw [RpC_cons] at q
    obtain ⟨v, vs', rfl, a1, a2⟩ := q
    have hr' : subA l k n = some r := by cases n <;> simpa only [subA] using hr
    obtain ⟨r', e1, e2⟩ := subA_rp a2 hr'
    exact ⟨r', by cases n <;> simpa only [subL] using e1, e2⟩
def updA : List AV → Nat → List AV → Option (List AV)
  | cs, 0, [] => some cs
  | c :: cs, 0, v :: vs => match updA cs 0 vs with
    | some r => some (v :: r)
    | none => none
  | c :: cs, k + 1, vs => match updA cs k vs with
    | some r => some (c :: r)
    | none => none
  | [], _, _ => none
theorem updA_rp {h : GH} : ∀ {l : List AV} {cs : List Value}, RpC h l cs → ∀ {k : Nat} {vs : List AV} {us : List Value}, RpC h vs us → ∀ {r : List AV}, updA l k vs = some r → ∃ r', updL cs k us = some r' ∧ RpC h r r'
  | l, cs, q, 0, [], us, p, r, hr => by
    rw [RpC_nil] at p; subst p
    have : r = l := by cases l <;> (simp only [updA] at hr; injection hr with hr; exact hr.symm)
    subst this
    exact ⟨cs, by cases cs <;> rfl, q⟩
  | [], cs, q, k + 1, vs, us, p, r, hr => by simp [updA] at hr
  | [], cs, q, 0, x :: vs, us, p, r, hr => by simp [updA] at hr
  | x :: l, cs, q, 0, z :: vs, us, p, r, hr => by
    rw [RpC_cons] at q p
    obtain ⟨v, cs', rfl, a1, a2⟩ := q
    obtain ⟨u, us', rfl, b1, b2⟩ := p
    simp only [updA] at hr
    split at hr
    · rename_i r1 h1
      injection hr with hr; subst hr
      obtain ⟨r', e1, e2⟩ := updA_rp a2 b2 h1
      exact ⟨u :: r', by simp only [updL, e1], RpC_cons.2 ⟨u, r', rfl, b1, e2⟩⟩
    · cases hr
  | x :: l, cs, q, k + 1, vs, us, p, r, hr => by
    rw [RpC_cons] at q
    obtain ⟨v, cs', rfl, a1, a2⟩ := q
    simp only [updA] at hr
    split at hr
    · rename_i r1 h1
      injection hr with hr; subst hr
      obtain ⟨r', e1, e2⟩ := updA_rp a2 p h1
      exact ⟨v :: r', by simp only [updL, e1], RpC_cons.2 ⟨v, r', rfl, a1, e2⟩⟩
    · cases hr
theorem nthL_rp {h : GH} {l : List AV} {vs : List Value} (q : RpC h l vs) {n : Nat} {x : AV} (hx : nthL l n = some x) : ∃ v, nthL vs n = some v ∧ Rp h x v := by
  rw [nthL_eq] at hx
  obtain ⟨v, e1, e2⟩ := q.at hx
  exact ⟨v, by rw [nthL_eq]; exact e1, e2⟩

/-! ### operations -/
def partA (fi : TI) (cs : List AV) (off : Nat) : Option AV :=
  match fi.agg with
  | true => match subA cs off fi.size with
    | some r => some (.ag r)
    | none => none
  | false => nthL cs off
theorem partA_rp {h : GH} {fi : TI} {l : List AV} {vs : List Value} (q : RpC h l vs) {off : Nat} {x : AV} (hx : partA fi l off = some x) : ∃ v, partv fi vs off = some v ∧ Rp h x v := by
  unfold partA at hx
  unfold partv
  split at hx
  · rename_i ha
    split at hx
    · rename_i r hr
      injection hx with hx; subst hx
      obtain ⟨r', e1, e2⟩ := subA_rp q hr
      rw [ha]; simp only [e1]
      exact ⟨_, rfl, Rp_ag.2 ⟨r', rfl, e2⟩⟩
    · cases hx
  · rename_i ha
    rw [ha]; simp only
    exact nthL_rp q hx

def one1 (x : Value) : Option AV := match oneC x with
  | true => some (.v x)
  | false => none
theorem one1_rp {h : GH} {x : Value} {y : AV} (hy : one1 x = some y) : Rp h y x := by
  unfold one1 at hy
  split at hy
  · rename_i ho; injection hy with hy; subst hy; exact Rp_v.2 ⟨rfl, ho⟩
  · cases hy
def opt1 : Option Value → Option AV
  | some x => one1 x
  | none => none
def binA (S : TT) (op : BinOp) (t : TypeId) : AV → AV → Option AV
  | .v a, .v b => opt1 (binv S op t a b)
  | .fn _ _ _, .v .nilFunc => match S.get t with
    | some ti => match ti.d with
      | .func _ _ _ => match op with
        | .eql => some (.v (.bool false))
        | .neq => some (.v (.bool true))
        | _ => none
      | _ => none
    | none => none
  | _, _ => none
def evsA (ρ : Operand → Option AV) : List Operand → Option (List AV)
  | [] => some []
  | x :: r => match ρ x with
    | some v => match evsA ρ r with
      | some vs => some (v :: vs)
      | none => none
    | none => none
def cellsA : AV → Option (List AV)
  | .ag l => some l
  | .tp _ => none
  | x => some [x]
theorem cellsA_rp {h : GH} {x : AV} {y : Value} {l : List AV} (q : Rp h x y) (hl : cellsA x = some l) : RpC h l (cellsL y) := by
  cases x with
  | ag l' => injection hl with hl; subst hl; exact q.cells (.inr ⟨_, rfl⟩)
  | tp l' => cases hl
  | v x => injection hl with hl; subst hl; exact q.cells (.inl rfl)
  | sl a b c => injection hl with hl; subst hl; exact q.cells (.inl rfl)
  | pe a b => injection hl with hl; subst hl; exact q.cells (.inl rfl)
  | fn a b c => injection hl with hl; subst hl; exact q.cells (.inl rfl)
  | ms a b c => injection hl with hl; subst hl; exact q.cells (.inl rfl)
  | ep a b c => injection hl with hl; subst hl; exact q.cells (.inl rfl)
  | eb a b => injection hl with hl; subst hl; exact q.cells (.inl rfl)
def lenN : List AV → Nat
  | [] => 0
  | _ :: r => Nat.succ (lenN r)
theorem lenN_eq (l : List AV) : lenN l = l.length := by induction l with
  | nil => rfl
  | cons x r ih => simp [lenN, ih]
def layA (place : Nat → Option (Nat × Nat)) (ρ : Operand → Option AV) : List (Nat × Operand) → List AV → Option (List AV)
  | [], cs => some cs
  | (i, x) :: r, cs => match ρ x with
    | some v => match cellsA v with
      | some vs => match place i with
        | some (off, size) => match Nat.beq (lenN vs) size with
          | true => match updA cs off vs with
            | some cs' => layA place ρ r cs'
            | none => none
          | false => none
        | none => none
      | none => none
    | none => none
def buildA (S : TT) (ρ : Operand → Option AV) (t : TypeId) (parts : List (Nat × Operand)) : Option AV :=
  match S.get t with
  | some ti => match allOne ti.zero with
    | true => match ti.d with
      | .struct fs => match allTyped S fs.toList with
        | true => match layA (structPlace S fs.toList) ρ parts (ti.zero.map .v) with
          | some r => some (.ag r)
          | none => none
        | false => none
      | .array _ el => match S.get el with
        | some ei => match layA (fun i => some (i * ei.size, ei.size)) ρ parts (ti.zero.map .v) with
          | some r => some (.ag r)
          | none => none
        | none => none
      | _ => none
    | false => none
  | none => none
def fieldA (S : TT) (t : TypeId) (i : Nat) : AV → Option AV
  | .ag cs => match fieldOf S t i with
    | some (off, fi) => partA fi cs off
    | none => none
  | _ => none
def fieldAddrA (S : TT) (t : TypeId) (i : Nat) : AV → Option AV
  | .v x => opt1 (fieldAddrv S t i x)
  | .pe _ (.ag cs) => match fieldOf S t i with
    | some (off, fi) => match Nat.beq fi.size 0 with
      | true => none
      | false => match subA cs off fi.size with
        | some r => match fi.agg with
          | true => some (.pe fi.size (.ag r))
          | false => match r with
            | [x] => match x.one with
              | true => some (.pe fi.size x)
              | false => none
            | _ => none
        | none => none
    | none => none
  | _ => none
def lenA (S : TT) (t : TypeId) : AV → Option AV
  | .v x => opt1 (lenv S t x)
  | .sl _ l _ => match S.get t with
    | some ti => match ti.d with
      | .slice _ => some (.v (.int .i64 (l.length : Int)))
      | _ => none
    | none => none
  | .ms _ _ n => match S.get t with
    | some ti => match ti.d with
      | .slice _ => some (.v (.int .i64 (n : Int)))
      | _ => none
    | none => none
  | _ => none
def rawL : List AV → Option (List Value)
  | [] => some []
  | .v x :: r => match rawL r with
    | some l => some (x :: l)
    | none => none
  | _ :: _ => none
def builtinA (S : TT) (b : Builtin) (ts : List TypeId) (vs : List AV) : Option AV :=
  match b with
  | .len => match ts with
    | [t] => match vs with
      | [v] => lenA S t v
      | _ => none
    | _ => none
  | .max => match vs with
    | [.v x, .v y] => opt1 (builtinv S .max ts [x, y])
    | _ => none
  | .min => match vs with
    | [.v x, .v y] => opt1 (builtinv S .min ts [x, y])
    | _ => none
  | _ => none
/-- operations that touch no memory that can be written -/
def apv (S : TT) (ρ : Operand → Option AV) : Op → Option AV
  | .move x => ρ x
  | .assign x => ρ x
  | .pick c a b => match ρ c with
    | some (.v (.bool g)) => match ρ a with
      | some (.v (.bool x)) => match ρ b with
        | some (.v (.bool y)) => some (.v (.bool (bif g then x else y)))
        | _ => none
      | _ => none
    | _ => none
  | .binOp op t x y _ => match ρ x with
    | some a => match ρ y with
      | some b => binA S op t a b
      | none => none
    | none => none
  | .unOp op _ x => match ρ x with
    | some (.v a) => opt1 (unv op a)
    | _ => none
  | .convert s d x => match ρ x with
    | some (.v a) => opt1 (convv S s d a)
    | _ => none
  | .field t x i => match ρ x with
    | some a => fieldA S t i a
    | none => none
  | .fieldAddr t x i => match ρ x with
    | some a => fieldAddrA S t i a
    | none => none
  | .extract x i => match ρ x with
    | some (.tp vs) => nthL vs i
    | _ => none
  | .build t parts => buildA S ρ t parts.toList
  | .makeFunc (.func f) first cap => match evsA ρ first.toList with
    | some a => match evsA ρ cap.toList with
      | some b => some (.fn f a b)
      | none => none
    | none => none
  | .nilCheck x => match ρ x with
    | some (.v (.pointer (some a))) => some (.v (.pointer (some a)))
    | some (.fn f a b) => some (.fn f a b)
    | some (.pe sz x) => some (.pe sz x)
    | _ => none
  | .call c => match c.callee with
    | .builtin b => match evsA ρ c.args.toList with
      | some vs => builtinA S b c.argTypes.toList vs
      | none => none
    | _ => none
  | _ => none

section
variable {h : GH} {S : TT} {ρ : Operand → Option AV} {σ : Operand → Option Value}
theorem opt1_rp {y : Option Value} {x : AV} (hy : opt1 y = some x) : ∃ z, y = some z ∧ Rp h x z := by
  cases y with
  | none => cases hy
  | some z => exact ⟨z, rfl, one1_rp hy⟩
theorem evsA_rp (hρ : ∀ z x, ρ z = some x → ∃ y, σ z = some y ∧ Rp h x y) : ∀ {l : List Operand} {vs : List AV}, evsA ρ l = some vs → ∃ us, evs σ l = some us ∧ RpC h vs us
  | [], _, hl => by simp only [evsA] at hl; injection hl with hl; subst hl; exact ⟨[], rfl, RpC_nil.2 rfl⟩
  | z :: r, _, hl => by
    simp only [evsA] at hl
    split at hl
    · rename_i x hx
      split at hl
      · rename_i vs hvs
        injection hl with hl; subst hl
        obtain ⟨y, e1, e2⟩ := hρ z x hx
        obtain ⟨us, e3, e4⟩ := evsA_rp hρ hvs
        exact ⟨y :: us, by simp only [evs, e1, e3], RpC_cons.2 ⟨y, us, rfl, e2, e4⟩⟩
      · cases hl
    · cases hl
theorem layA_rp (hρ : ∀ z x, ρ z = some x → ∃ y, σ z = some y ∧ Rp h x y) {place : Nat → Option (Nat × Nat)} : ∀ {parts : List (Nat × Operand)} {cs r : List AV} {us : List Value}, RpC h cs us → layA place ρ parts cs = some r →
    ∃ r', layL place σ parts us = some r' ∧ RpC h r r'
  | [], cs, r, us, q, hr => by simp only [layA] at hr; injection hr with hr; subst hr; exact ⟨us, rfl, q⟩
  | (i, z) :: p, cs, r, us, q, hr => by
    simp only [layA] at hr
    split at hr
    · rename_i v hv
      split at hr
      · rename_i vs hc
        split at hr
        · rename_i off size hp
          split at hr
          · rename_i hlen
            split at hr
            · rename_i cs' hu
              obtain ⟨y, e1, e2⟩ := hρ z v hv
              have e3 := cellsA_rp e2 hc
              obtain ⟨r1, e4, e5⟩ := updA_rp q e3 hu
              obtain ⟨r', e6, e7⟩ := layA_rp hρ e5 hr
              have e8 : Nat.beq (cellsL y).length size = true := by rw [e3.len, ← lenN_eq]; exact hlen
              exact ⟨r', by simp only [layL, e1, hp, e8, e4, e6], e7⟩
            · cases hr
          · cases hr
        · cases hr
      · cases hr
    · cases hr
theorem buildA_rp (hρ : ∀ z x, ρ z = some x → ∃ y, σ z = some y ∧ Rp h x y) {t : TypeId} {parts : List (Nat × Operand)} {x : AV} (hx : buildA S ρ t parts = some x) : ∃ y, buildv S σ t parts = some y ∧ Rp h x y := by
  unfold buildA at hx
  unfold buildv
  split at hx
  · rename_i ti ht
    rw [ht]
    split at hx
    · rename_i hz
      have q := RpC_v (h := h) hz
      split at hx
      · rename_i fs hd
        simp only [hd]
        split at hx
        · rename_i hty
          simp only [hty]
          split at hx
          · rename_i r hr
            injection hx with hx; subst hx
            obtain ⟨r', e1, e2⟩ := layA_rp hρ q hr
            simp only [e1]
            exact ⟨_, rfl, Rp_ag.2 ⟨r', rfl, e2⟩⟩
          · cases hx
        · cases hx
      · rename_i n el hd
        simp only [hd]
        split at hx
        · rename_i ei hei
          simp only [hei]
          split at hx
          · rename_i r hr
            injection hx with hx; subst hx
            obtain ⟨r', e1, e2⟩ := layA_rp hρ q hr
            simp only [e1]
            exact ⟨_, rfl, Rp_ag.2 ⟨r', rfl, e2⟩⟩
          · cases hx
        · cases hx
      · cases hx
    · cases hx
  · cases hx

theorem cellsL_sub {h : GH} {l r : List AV} {vs : List Value} (q : RpC h l vs) {k n : Nat} (hs : subA l k n = some r) {b o : Nat} (ha : atH h b o vs) :
    ∃ us, RpC h r us ∧ us.length = n ∧ atH h b (o + k) us := by
  obtain ⟨us, e1, e2⟩ := subA_rp q hs
  obtain ⟨g1, g2, g3⟩ := subL_spec _ _ _ e1
  refine ⟨us, e2, g1, fun i v hv => ?_⟩
  have hi : i < n := by
    rcases Nat.lt_or_ge i n with hi | hi
    · exact hi
    · rw [List.getElem?_eq_none (by omega)] at hv; cases hv
  rw [g3 i hi] at hv
  have := ha _ _ hv
  rwa [← Nat.add_assoc] at this

theorem apv_rp (hρ : ∀ z x, ρ z = some x → ∃ y, σ z = some y ∧ Rp h x y) {op : Op} {x : AV} (hx : apv S ρ op = some x) : ∃ y, pv S σ op = some y ∧ Rp h x y := by
  unfold apv at hx
  split at hx
  · exact hρ _ _ hx
  · exact hρ _ _ hx
  · rename_i c a b
    split at hx
    · rename_i g hg
      split at hx
      · rename_i p hp
        split at hx
        · rename_i q hq
          injection hx with hx; subst hx
          obtain ⟨y1, e1, f1⟩ := hρ _ _ hg
          obtain ⟨y2, e2, f2⟩ := hρ _ _ hp
          obtain ⟨y3, e3, f3⟩ := hρ _ _ hq
          rw [Rp_v] at f1 f2 f3
          rw [f1.1] at e1; rw [f2.1] at e2; rw [f3.1] at e3
          simp only [pv, e1, e2, e3]
          exact ⟨_, rfl, Rp_v.2 ⟨rfl, rfl⟩⟩
        · cases hx
      · cases hx
    · cases hx
  · rename_i op t a b _
    split at hx
    · rename_i p hp
      split at hx
      · rename_i q hq
        obtain ⟨y1, e1, f1⟩ := hρ _ _ hp
        obtain ⟨y2, e2, f2⟩ := hρ _ _ hq
        simp only [pv, e1, e2]
        unfold binA at hx
        split at hx
        · rw [Rp_v] at f1 f2
          rw [f1.1, f2.1]
          exact opt1_rp hx
        · rw [Rp_fn] at f1
          obtain ⟨u, w, rfl, _⟩ := f1
          rw [Rp_v] at f2
          rw [f2.1]
          unfold binv
          split at hx
          · rename_i ti ht
            simp only [ht]
            split at hx
            · rename_i hd
              simp only [hd]
              split at hx
              · injection hx with hx; subst hx; exact ⟨_, rfl, Rp_v.2 ⟨rfl, rfl⟩⟩
              · injection hx with hx; subst hx; exact ⟨_, rfl, Rp_v.2 ⟨rfl, rfl⟩⟩
              · cases hx
            · cases hx
          · cases hx
        · cases hx
      · cases hx
    · cases hx
  · split at hx
    · rename_i a ha
      obtain ⟨y1, e1, f1⟩ := hρ _ _ ha
      rw [Rp_v] at f1; rw [f1.1] at e1
      simp only [pv, e1]
      exact opt1_rp hx
    · cases hx
  · split at hx
    · rename_i a ha
      obtain ⟨y1, e1, f1⟩ := hρ _ _ ha
      rw [Rp_v] at f1; rw [f1.1] at e1
      simp only [pv, e1]
      exact opt1_rp hx
    · cases hx
  · rename_i t z i
    split at hx
    · rename_i a ha
      obtain ⟨y1, e1, f1⟩ := hρ _ _ ha
      simp only [pv, e1]
      unfold fieldA at hx
      split at hx
      · rw [Rp_ag] at f1
        obtain ⟨cs, rfl, f1⟩ := f1
        unfold fieldv
        split at hx
        · rename_i off fi hf
          simp only [hf]
          exact partA_rp f1 hx
        · cases hx
      · cases hx
    · cases hx
  · rename_i t z i
    split at hx
    · rename_i a ha
      obtain ⟨y1, e1, f1⟩ := hρ _ _ ha
      simp only [pv, e1]
      unfold fieldAddrA at hx
      split at hx
      · rw [Rp_v] at f1; rw [f1.1]
        exact opt1_rp hx
      · rw [Rp_pe] at f1
        obtain ⟨b, o, zz, rfl, f1, f2, f3⟩ := f1
        rw [Rp_ag] at f1
        obtain ⟨cs, rfl, f1⟩ := f1
        unfold fieldAddrv
        split at hx
        · rename_i off fi hf
          simp only [hf]
          split at hx
          · cases hx
          · rename_i hz
            simp only [hz]
            split at hx
            · rename_i r hr
              obtain ⟨us, g1, g2, g3⟩ := cellsL_sub f1 hr f3
              split at hx
              · injection hx with hx; subst hx
                exact ⟨_, rfl, Rp_pe.2 ⟨b, o + off, .agg ⟨us⟩, rfl, Rp_ag.2 ⟨us, rfl, g1⟩, g2, g3⟩⟩
              · split at hx
                · rename_i x' _
                  split at hx
                  · rename_i ho
                    injection hx with hx; subst hx
                    rw [RpC_cons] at g1
                    obtain ⟨u, us', rfl, g4, g5⟩ := g1
                    rw [RpC_nil] at g5; subst g5
                    have := cellsL_one (g4.one ho)
                    exact ⟨_, rfl, Rp_pe.2 ⟨b, o + off, u, rfl, g4, by rw [this]; exact g2, by rw [this]; exact g3⟩⟩
                  · cases hx
                · cases hx
            · cases hx
        · cases hx
      · cases hx
    · cases hx
  · split at hx
    · rename_i vs ha
      obtain ⟨y1, e1, f1⟩ := hρ _ _ ha
      rw [Rp_tp] at f1
      obtain ⟨us, rfl, f1⟩ := f1
      simp only [pv, e1]
      exact nthL_rp f1 hx
    · cases hx
  · exact buildA_rp hρ hx
  · rename_i f first cap
    split at hx
    · rename_i a ha
      split at hx
      · rename_i b hb
        injection hx with hx; subst hx
        obtain ⟨us, e1, e2⟩ := evsA_rp hρ ha
        obtain ⟨ws, e3, e4⟩ := evsA_rp hρ hb
        simp only [pv, e1, e3]
        exact ⟨_, rfl, Rp_fn.2 ⟨us, ws, rfl, e2, e4⟩⟩
      · cases hx
    · cases hx
  · split at hx
    · rename_i a ha
      injection hx with hx; subst hx
      obtain ⟨y1, e1, f1⟩ := hρ _ _ ha
      rw [Rp_v] at f1; rw [f1.1] at e1
      simp only [pv, e1]
      exact ⟨_, rfl, Rp_v.2 ⟨rfl, rfl⟩⟩
    · rename_i f a b ha
      injection hx with hx; subst hx
      obtain ⟨y1, e1, f1⟩ := hρ _ _ ha
      have f1' := f1
      rw [Rp_fn] at f1
      obtain ⟨u, w, rfl, _⟩ := f1
      simp only [pv, e1]
      exact ⟨_, rfl, f1'⟩
    · rename_i sz z ha
      injection hx with hx; subst hx
      obtain ⟨y1, e1, f1⟩ := hρ _ _ ha
      have f1' := f1
      rw [Rp_pe] at f1
      obtain ⟨b, o, zz, rfl, _⟩ := f1
      simp only [pv, e1]
      exact ⟨_, rfl, f1'⟩
    · cases hx
  · rename_i c
    split at hx
    · rename_i b hb
      split at hx
      · rename_i vs hvs
        obtain ⟨us, e1, e2⟩ := evsA_rp hρ hvs
        simp only [pv, hb, e1]
        unfold builtinA at hx
        split at hx
        · split at hx
          · rename_i t hts
            split at hx
            · rw [RpC_cons] at e2
              obtain ⟨u, us', rfl, e2, e3⟩ := e2
              rw [RpC_nil] at e3; subst e3
              simp only [builtinv, hts]
              unfold lenA at hx
              split at hx
              · rw [Rp_v] at e2; rw [e2.1]
                exact opt1_rp hx
              · rw [Rp_sl] at e2
                obtain ⟨a, cap, rfl, _⟩ := e2
                unfold lenv
                split at hx
                · rename_i ti ht
                  simp only [ht]
                  split at hx
                  · rename_i hd
                    simp only [hd]
                    injection hx with hx; subst hx
                    exact ⟨_, rfl, Rp_v.2 ⟨rfl, rfl⟩⟩
                  · cases hx
                · cases hx
              · rw [Rp_ms] at e2
                obtain ⟨rfl, a, cap, rfl⟩ := e2
                unfold lenv
                split at hx
                · rename_i ti ht
                  simp only [ht]
                  split at hx
                  · rename_i hd
                    simp only [hd]
                    injection hx with hx; subst hx
                    exact ⟨_, rfl, Rp_v.2 ⟨rfl, rfl⟩⟩
                  · cases hx
                · cases hx
              · cases hx
            · cases hx
          · cases hx
        · split at hx
          · rw [RpC_cons] at e2
            obtain ⟨u, us', rfl, e2, e3⟩ := e2
            rw [RpC_cons] at e3
            obtain ⟨u2, us2, rfl, e3, e4⟩ := e3
            rw [RpC_nil] at e4; subst e4
            rw [Rp_v] at e2 e3
            rw [e2.1, e3.1]
            exact opt1_rp hx
          · cases hx
        · split at hx
          · rw [RpC_cons] at e2
            obtain ⟨u, us', rfl, e2, e3⟩ := e2
            rw [RpC_cons] at e3
            obtain ⟨u2, us2, rfl, e3, e4⟩ := e3
            rw [RpC_nil] at e4; subst e4
            rw [Rp_v] at e2 e3
            rw [e2.1, e3.1]
            exact opt1_rp hx
          · cases hx
        · cases hx
      · cases hx
    · cases hx
  · cases hx
end
end Go.Tp
