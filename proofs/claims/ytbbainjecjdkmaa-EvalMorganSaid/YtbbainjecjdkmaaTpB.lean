/-
  (TpB: symbolic slots, the judgement V, one symbolic step.)
-/
import Derived.Test.YtbbainjecjdkmaaTpA
namespace Go.Tp
open Go Go.RowKit

/-! ### slots -/
abbrev Us := List (Nat × Value)
abbrev Cs := List (Nat × (Nat × Bool) × Value)
structure Env where
  us : Us
  cs : Cs := []

def look : Us → Nat → Option Value
  | [], _ => none
  | (k, v) :: r, t => match Nat.beq k t with | true => some v | false => look r t
def lookc : Cs → Nat → Option ((Nat × Bool) × Value)
  | [], _ => none
  | (k, c, v) :: r, t => match Nat.beq k t with | true => some (c, v) | false => lookc r t
def freeOf : Cs → Nat → Bool
  | [], _ => true
  | (k, (g, _), _) :: r, t => match Nat.beq k t with | true => false | false => match Nat.beq g t with | true => false | false => freeOf r t

theorem beq_false_ne {a b : Nat} (h : Nat.beq a b = false) : a ≠ b := fun e => by subst e; simp at h
theorem freeOf_spec {t : Nat} : ∀ {cs : Cs}, freeOf cs t = true → lookc cs t = none ∧ ∀ u g b v, lookc cs u = some ((g, b), v) → g ≠ t
  | [], _ => ⟨rfl, fun _ _ _ _ h => by cases h⟩
  | (k, (g, b), v) :: r, h => by
    simp only [freeOf] at h
    split at h
    · cases h
    · rename_i h1
      split at h
      · cases h
      · rename_i h2
        obtain ⟨i1, i2⟩ := freeOf_spec h
        refine ⟨by simp only [lookc, h1]; exact i1, fun u g' b' v' hu => ?_⟩
        simp only [lookc] at hu
        split at hu
        · injection hu with hu; injection hu with hu _; injection hu with hg _
          subst hg; exact beq_false_ne h2
        · exact i2 _ _ _ _ hu

structure Ag (n : Nat) (e : Env) (a : Act) : Prop where
  size : a.tmps.size = n
  defers : a.defers = []
  us : ∀ t v, look e.us t = some v → a.tmps[t]? = some v
  cs : ∀ t g b v, lookc e.cs t = some ((g, b), v) → (a.tmps[g]? = some (.bool b) → a.tmps[t]? = some v) ∧ (a.tmps[g]? ≠ some (.bool b) → a.tmps[t]? = some undef)

def inKeys : List (Nat × Bool) → Nat × Bool → Bool
  | [], _ => false
  | (k, b) :: r, (k', b') => match Nat.beq k k' with | true => (match b, b' with | true, true => true | false, false => true | _, _ => inKeys r (k', b')) | false => inKeys r (k', b')
theorem inKeys_mem : ∀ {ks : List (Nat × Bool)} {x : Nat × Bool}, inKeys ks x = true → x ∈ ks
  | [], _, h => by cases h
  | (k, b) :: r, (k', b'), h => by
    simp only [inKeys] at h
    split at h
    · rename_i hk
      have hk := Nat.eq_of_beq_eq_true hk
      subst hk
      split at h
      · exact List.mem_cons_self ..
      · exact List.mem_cons_self ..
      · exact List.mem_cons_of_mem _ (inKeys_mem h)
    · exact List.mem_cons_of_mem _ (inKeys_mem h)

def Env.ev (e : Env) (ks : List (Nat × Bool)) : Operand → Option Value
  | .tmp t => match look e.us t with
    | some v => some v
    | none => match lookc e.cs t with
      | some (c, v) => match inKeys ks c with | true => some v | false => none
      | none => none
  | .const v => some v
  | .global g => some (.pointer (some ⟨g, 0, none⟩))
  | .func f => some (.func (.func f) #[] #[])

def keysOk (a : Act) (ks : List (Nat × Bool)) : Prop := ∀ g b, (g, b) ∈ ks → a.tmps[g]? = some (.bool b)
theorem keysOk_nil (a : Act) : keysOk a [] := fun _ _ h => by cases h

theorem Act.getD_of {a : Act} {t : Nat} {v : Value} (h : a.tmps[t]? = some v) : a.tmps.getD t undef = v := by
  simp [Array.getD_eq_getD_getElem?, h]

theorem Ag.ev {n : Nat} {e : Env} {a : Act} {ks : List (Nat × Bool)} (g : Ag n e a) (hk : keysOk a ks) : ∀ {x : Operand} {v : Value}, e.ev ks x = some v → a.eval x = v := by
  intro x v hx
  cases x with
  | tmp t =>
    simp only [Env.ev] at hx
    split at hx
    · rename_i u hu
      injection hx with hx; subst hx
      exact Act.getD_of (g.us t _ hu)
    · split at hx
      · rename_i c u hu
        split at hx
        · rename_i hc
          injection hx with hx; subst hx
          obtain ⟨gg, b⟩ := c
          exact Act.getD_of ((g.cs t gg b _ hu).1 (hk _ _ (inKeys_mem hc)))
        · cases hx
      · cases hx
  | const u => injection hx
  | global u => injection hx
  | func u => injection hx

def nthL {α : Type} : List α → Nat → Option α
  | [], _ => none
  | x :: _, 0 => some x
  | _ :: r, n + 1 => nthL r n
theorem nthL_eq {α : Type} : ∀ (l : List α) (n : Nat), nthL l n = l[n]?
  | [], _ => by simp [nthL]
  | _ :: _, 0 => by simp [nthL]
  | _ :: r, n + 1 => by simp [nthL, nthL_eq r n]

/-- the keys that hold where this one does -/
def chain (cs : Cs) : Nat → Nat × Bool → List (Nat × Bool)
  | 0, k => [k]
  | f + 1, k => match lookc cs k.1 with
    | some (k', _) => k :: chain cs f k'
    | none => [k]

theorem bool_ne_undef (b : Bool) : (Value.bool b) ≠ undef := by intro h; cases h

theorem Ag.chain {n : Nat} {e : Env} {a : Act} (g : Ag n e a) : ∀ (f : Nat) (k : Nat × Bool), a.tmps[k.1]? = some (.bool k.2) → keysOk a (chain e.cs f k)
  | 0, k, h => fun x b hm => by simp only [Go.Tp.chain, List.mem_singleton] at hm; subst hm; exact h
  | f + 1, k, h => fun x b hm => by
    simp only [Go.Tp.chain] at hm
    split at hm
    · rename_i k' v hl
      rcases List.mem_cons.1 hm with rfl | hm
      · exact h
      · obtain ⟨g', b'⟩ := k'
        refine g.chain f (g', b') ?_ x b hm
        obtain ⟨_, h2⟩ := g.cs _ _ _ _ hl
        by_cases hg : a.tmps[g']? = some (.bool b')
        · exact hg
        · have := h2 hg; rw [h] at this; injection this with this; exact (bool_ne_undef _ this).elim
    · simp only [List.mem_singleton] at hm; subst hm; exact h

/-- how an operation's guard is met -/
def gmode (e : Env) (all : Array Oper) : Option (Nat × Bool) → Option (Option (Nat × Bool) × List (Nat × Bool))
  | none => some (none, [])
  | some (j, w) => match nthL all.toList j with
    | some o => match o.dst with
      | some t => some (some (t, w), Go.Tp.chain e.cs 6 (t, w))
      | none => none
    | none => none

def Env.put (n : Nat) (m : Option (Nat × Bool)) (d : Option Nat) (v : Value) (e : Env) : Option Env :=
  match d with
  | none => some e
  | some d => match Nat.blt d n with
    | false => none
    | true => match freeOf e.cs d with
      | false => none
      | true => match m with
        | none => some ⟨(d, v) :: e.us, e.cs⟩
        | some k => match look e.us d with
          | some _ => none
          | none => match Nat.beq k.1 d with
            | true => none
            | false => some ⟨e.us, (d, k, v) :: e.cs⟩

theorem getElem?_put_same {a : Act} {d : Nat} {v : Value} (h : d < a.tmps.size) : (a.put (some d) v).tmps[d]? = some v := by
  simp [Act.put, h]
theorem getElem?_put_ne {a : Act} {d t : Nat} {v : Value} (h : t ≠ d) : (a.put (some d) v).tmps[t]? = a.tmps[t]? := by
  simp only [Act.put, Array.getElem?_setIfInBounds, if_neg (Ne.symm h)]
theorem put_size {a : Act} {d : Option Nat} {v : Value} : (a.put d v).tmps.size = a.tmps.size := by cases d <;> simp [Act.put]
theorem put_defers {a : Act} {d : Option Nat} {v : Value} : (a.put d v).defers = a.defers := by cases d <;> rfl

theorem Ag.put {n : Nat} {e e' : Env} {a : Act} {d : Option Nat} {v : Value} (g : Ag n e a) (h : e.put n none d v = some e') : Ag n e' (a.put d v) := by
  cases d with
  | none => injection h with h; subst h; exact g
  | some d =>
    simp only [Env.put] at h
    split at h
    · cases h
    · rename_i hlt
      have hlt : d < a.tmps.size := by rw [g.size]; simpa [Nat.blt_eq] using hlt
      split at h
      · cases h
      · rename_i hf
        injection h with h; subst h
        obtain ⟨f1, f2⟩ := freeOf_spec hf
        refine ⟨by rw [put_size]; exact g.size, by rw [put_defers]; exact g.defers, fun t u hu => ?_, fun t gg b u hu => ?_⟩
        · simp only [look] at hu
          split at hu
          · rename_i hk
            have hk := Nat.eq_of_beq_eq_true hk; subst hk
            injection hu with hu; subst hu
            exact getElem?_put_same hlt
          · rename_i hk
            rw [getElem?_put_ne (Ne.symm (beq_false_ne hk))]
            exact g.us t u hu
        · have hg := f2 _ _ _ _ hu
          have ht : t ≠ d := fun e => by subst e; rw [f1] at hu; cases hu
          rw [getElem?_put_ne hg, getElem?_put_ne ht]
          exact g.cs t gg b u hu

theorem Ag.putc {n : Nat} {e e' : Env} {a : Act} {d : Option Nat} {k : Nat × Bool} {v u : Value} (g : Ag n e a) (h : e.put n (some k) d v = some e')
    (h1 : a.tmps[k.1]? = some (.bool k.2) → u = v) (h2 : a.tmps[k.1]? ≠ some (.bool k.2) → u = undef) : Ag n e' (a.put d u) := by
  cases d with
  | none => injection h with h; subst h; exact g
  | some d =>
    simp only [Env.put] at h
    split at h
    · cases h
    · rename_i hlt
      have hlt : d < a.tmps.size := by rw [g.size]; simpa [Nat.blt_eq] using hlt
      split at h
      · cases h
      · rename_i hf
        split at h
        · cases h
        · rename_i hnone
          split at h
          · cases h
          · rename_i hkd
            injection h with h; subst h
            obtain ⟨f1, f2⟩ := freeOf_spec hf
            have hkd := beq_false_ne hkd
            refine ⟨by rw [put_size]; exact g.size, by rw [put_defers]; exact g.defers, fun t x hx => ?_, fun t gg b x hx => ?_⟩
            · have ht : t ≠ d := fun e => by subst e; rw [hnone] at hx; cases hx
              rw [getElem?_put_ne ht]; exact g.us t x hx
            · simp only [lookc] at hx
              split at hx
              · rename_i hk
                have hk := Nat.eq_of_beq_eq_true hk; subst hk
                injection hx with hx; injection hx with hx1 hx2; subst hx1; subst hx2
                rw [getElem?_put_ne hkd, getElem?_put_same hlt]
                exact ⟨fun hh => by rw [h1 hh], fun hh => by rw [h2 hh]⟩
              · rename_i hk
                have hg := f2 _ _ _ _ hx
                rw [getElem?_put_ne hg, getElem?_put_ne (Ne.symm (beq_false_ne hk))]
                exact g.cs t gg b x hx

/-- fewer slots -/
def Env.Sub (e : Env) : Us → Prop
  | [] => True
  | (t, v) :: r => look e.us t = some v ∧ e.Sub r
theorem Ag.sub {n : Nat} {e : Env} {us : Us} {a : Act} (g : Ag n e a) (h : e.Sub us) : Ag n ⟨us, []⟩ a := by
  refine ⟨g.size, g.defers, ?_, fun _ _ _ _ h => by cases h⟩
  induction us with
  | nil => intro t v hv; cases hv
  | cons x r ih =>
    obtain ⟨k, u⟩ := x
    intro t v hv
    simp only [look] at hv
    split at hv
    · rename_i hk
      have hk := Nat.eq_of_beq_eq_true hk; subst hk
      injection hv with hv; subst hv
      exact g.us _ _ h.1
    · exact ih h.2 t v hv

theorem Ag.clear {n : Nat} {e : Env} {a : Act} (g : Ag n e a) : Ag n ⟨e.us, []⟩ a := ⟨g.size, g.defers, g.us, fun _ _ _ _ h => by cases h⟩

/-! ### the judgement -/
inductive It where
  | code (c : Code)
  | ops (all : Array Oper) (l : List Oper)
  | inBlock (id : Nat)
  | inLoop (c : Code)
  | inScope (c : Code)

def It.item : It → Item
  | .code c => .code c
  | .ops all l => .inRegion all (List.range' (all.size - l.length) l.length)
  | .inBlock id => .inBlock id
  | .inLoop c => .inLoop c
  | .inScope c => .inScope c
def It.ok : It → Prop
  | .ops all l => ∃ pre, all.toList = pre ++ l
  | _ => True
def items (k : List It) : List Item := k.map It.item
def itsOk (k : List It) : Prop := ∀ x, x ∈ k → x.ok

/-- what is told of a type -/
structure TI where
  d : TypeDesc
  size : Nat
  bytes : Nat
  zero : List Value
  agg : Bool
def isAggD : TypeDesc → Bool
  | .struct _ => true
  | .array _ _ => true
  | _ => false
structure TI.Ok (P : Program) (t : TypeId) (i : TI) : Prop where
  und : P.underlying t = some i.d
  info : ∃ x z, P.info? t = some x ∧ x.size = i.size ∧ x.bytes = i.bytes ∧ x.zero = some z ∧ z.cells.toList = i.zero
  agg : isAggD i.d = i.agg
  len : i.zero.length = i.size
inductive TT where
  | leaf
  | node (k : Nat) (v : TI) (l r : TT)
def TT.get : TT → Nat → Option TI
  | .leaf, _ => none
  | .node k v l r, t => match Nat.beq k t with
    | true => some v
    | false => match Nat.blt t k with
      | true => l.get t
      | false => r.get t
def TT.Ok (P : Program) : TT → Prop
  | .leaf => True
  | .node k v l r => TI.Ok P k v ∧ l.Ok P ∧ r.Ok P
theorem TT.Ok.get {P : Program} {t : Nat} {i : TI} : ∀ {S : TT}, S.Ok P → S.get t = some i → TI.Ok P t i
  | .leaf, _, hg => by cases hg
  | .node k v l r, ⟨h1, h2, h3⟩, hg => by
    simp only [TT.get] at hg
    split at hg
    · rename_i hk
      have hk := Nat.eq_of_beq_eq_true hk; subst hk
      injection hg with hg; subst hg; exact h1
    · split at hg
      · exact TT.Ok.get h2 hg
      · exact TT.Ok.get h3 hg

structure Cfg where
  P : Program
  S : TT
  w0 : World
  f : FuncId
  fn : Func
  n : Nat
  R : Value → GH → List Ent → Prop
  ok : S.Ok P
  hfn : P.funcs[f]? = some fn

def V (C : Cfg) (k : List It) (e : Env) (h : GH) (L : List Ent) : Prop :=
  itsOk k → ∀ (a : Act) (w : World) (b : Frame) (cs : List Frame), Ag C.n e a → St C.w0 h L w → b.fn = C.f → b.kind = .normal →
    ∃ v w' fr h' L', C.R v h' L' ∧ St C.w0 h' L' w' ∧ Steps C.P (lone (b.at a (items k)) cs w) (lone fr cs w') ∧ fr.fn = C.f ∧ fr.leaving C.P w' (.returned v)

variable {C : Cfg} {k : List It} {e : Env} {h : GH} {L : List Ent}

theorem V.sub {us : Us} (hs : e.Sub us) (hv : V C k ⟨us, []⟩ h L) : V C k e h L :=
  fun ho a w b cs g s hf hk => hv ho a w b cs (g.sub hs) s hf hk

theorem V.perm {L' : List Ent} (hp : L.Perm L') (hv : V C k e h L') : V C k e h L :=
  fun ho a w b cs g s hf hk => hv ho a w b cs g (s.perm hp) hf hk

theorem V.tail {p : Ent} (hv : V C k e h L) : V C k e h (p :: L) :=
  fun ho a w b cs g s hf hk => hv ho a w b cs g s.tail hf hk

theorem V.publish {b lo : Nat} {vs : List Value} (hv : h.le (h.add b lo vs) → V C k e (h.add b lo vs) L) : V C k e h (⟨b, lo, vs, none⟩ :: L) :=
  fun ho a w bb cs g s hf hk => hv s.le_add ho a w bb cs g s.publish hf hk

/-- a step of the machine that leaves the slots and the world alone -/
theorem V.of_step {k' : List It} (hok : itsOk k → itsOk k') (hst : ∀ (a : Act) (w : World) (b : Frame) (cs : List Frame), Ag C.n e a → Steps C.P (lone (b.at a (items k)) cs w) (lone (b.at a (items k')) cs w))
    (hv : V C k' e h L) : V C k e h L :=
  fun ho a w b cs g s hf hk =>
    let ⟨v, w', fr, h', L', r, s', st, e1, e2⟩ := hv (hok ho) a w b cs g s hf hk
    ⟨v, w', fr, h', L', r, s', (hst a w b cs g).trans st, e1, e2⟩

theorem itsOk_tail {x : It} (ho : itsOk (x :: k)) : itsOk k := fun y hy => ho y (List.mem_cons_of_mem _ hy)
theorem itsOk_cons {x : It} (hx : x.ok) (ho : itsOk k) : itsOk (x :: k) := fun y hy => by
  rcases List.mem_cons.1 hy with rfl | hy
  · exact hx
  · exact ho y hy

theorem itsOk_code {c : Code} (ho : itsOk k) : itsOk (.code c :: k) := itsOk_cons (show It.ok (.code c) from trivial) ho
theorem itsOk_block {id : Nat} (ho : itsOk k) : itsOk (.inBlock id :: k) := itsOk_cons (show It.ok (.inBlock id) from trivial) ho
theorem itsOk_scope {c : Code} (ho : itsOk k) : itsOk (.inScope c :: k) := itsOk_cons (show It.ok (.inScope c) from trivial) ho
theorem itsOk_loop {c : Code} (ho : itsOk k) : itsOk (.inLoop c :: k) := itsOk_cons (show It.ok (.inLoop c) from trivial) ho
theorem itsOk_ops {all : Array Oper} {l pre : List Oper} (hp : all.toList = pre ++ l) (ho : itsOk k) : itsOk (.ops all l :: k) := itsOk_cons (show It.ok (.ops all l) from ⟨pre, hp⟩) ho

/-! ### control -/
def exitIt (id : Nat) : List It → Option (List It)
  | .inBlock id' :: k => match Nat.beq id' id with | true => some k | false => exitIt id k
  | _ :: k => exitIt id k
  | [] => none
theorem exitIt_spec {id : Nat} : ∀ {k k' : List It}, exitIt id k = some k' → exitTo id (items k) = some (items k') ∧ (itsOk k → itsOk k')
  | [], _, h => by cases h
  | .inBlock id' :: k, k', h => by
    simp only [exitIt] at h
    split at h
    · rename_i hb
      have hb := Nat.eq_of_beq_eq_true hb; subst hb
      injection h with h; subst h
      exact ⟨by simp [items, It.item, exitTo], itsOk_tail⟩
    · rename_i hb
      obtain ⟨h1, h2⟩ := exitIt_spec h
      refine ⟨?_, fun ho => h2 (itsOk_tail ho)⟩
      have : (id' == id) = false := by simpa using beq_false_ne hb
      simpa [items, It.item, exitTo, this] using h1
  | .code c :: k, k', h => by
    obtain ⟨h1, h2⟩ := exitIt_spec (k := k) h
    exact ⟨by simpa [items, It.item, exitTo] using h1, fun ho => h2 (itsOk_tail ho)⟩
  | .ops all l :: k, k', h => by
    obtain ⟨h1, h2⟩ := exitIt_spec (k := k) h
    exact ⟨by simpa [items, It.item, exitTo] using h1, fun ho => h2 (itsOk_tail ho)⟩
  | .inLoop c :: k, k', h => by
    obtain ⟨h1, h2⟩ := exitIt_spec (k := k) h
    exact ⟨by simpa [items, It.item, exitTo] using h1, fun ho => h2 (itsOk_tail ho)⟩
  | .inScope c :: k, k', h => by
    obtain ⟨h1, h2⟩ := exitIt_spec (k := k) h
    exact ⟨by simpa [items, It.item, exitTo] using h1, fun ho => h2 (itsOk_tail ho)⟩

theorem step_scope {P : Program} {b : Frame} {a : Act} {k : List Item} {cs : List Frame} {w : World} {c : Code} :
    step P (lone (b.at a (.code (.scope c) :: k)) cs w) = .next (lone (b.at a (.code c :: .inScope c :: k)) cs w) :=
  step_lone_go (by simp [stepG, stepG.exec, Frame.at])
theorem step_inScope {P : Program} {b : Frame} {a : Act} {k : List Item} {cs : List Frame} {w : World} {c : Code} :
    step P (lone (b.at a (.inScope c :: k)) cs w) = .next (lone (b.at a k) cs w) :=
  step_lone_go (by simp [stepG, stepG.exec, Frame.at])

/-- steps of control alone -/
def cstep : List It → Option (List It)
  | .code (.seq x y) :: k => some (.code x :: .code y :: k)
  | .code .skip :: k => some k
  | .code (.label _) :: k => some k
  | .code (.block id c) :: k => some (.code c :: .inBlock id :: k)
  | .code (.scope c) :: k => some (.code c :: .inScope c :: k)
  | .code (.exit id) :: k => exitIt id k
  | .code (.region _ ops false) :: k => some (.ops ops ops.toList :: k)
  | .inBlock _ :: k => some k
  | .inScope _ :: k => some k
  | _ => none

theorem V.cstep {k' : List It} (hc : cstep k = some k') (hv : V C k' e h L) : V C k e h L := by
  unfold Go.Tp.cstep at hc
  split at hc
  case h_1 => injection hc with hc; subst hc; exact hv.of_step (fun ho => itsOk_code (itsOk_code (itsOk_tail ho))) fun _ _ _ _ _ => .one step_seq
  case h_2 => injection hc with hc; subst hc; exact hv.of_step itsOk_tail fun _ _ _ _ _ => .one step_skip
  case h_3 => injection hc with hc; subst hc; exact hv.of_step itsOk_tail fun _ _ _ _ _ => .one step_label
  case h_4 => injection hc with hc; subst hc; exact hv.of_step (fun ho => itsOk_code (itsOk_block (itsOk_tail ho))) fun _ _ _ _ _ => .one step_block
  case h_5 => injection hc with hc; subst hc; exact hv.of_step (fun ho => itsOk_code (itsOk_scope (itsOk_tail ho))) fun _ _ _ _ _ => .one step_scope
  case h_6 id k =>
    obtain ⟨h1, h2⟩ := exitIt_spec hc
    exact hv.of_step (fun ho => h2 (itsOk_tail ho)) fun _ _ _ _ _ => .one (step_exit h1)
  case h_7 id ops k =>
    injection hc with hc; subst hc
    refine hv.of_step (fun ho => itsOk_ops (all := ops) (pre := []) (by simp) (itsOk_tail ho)) fun a w b cs _ => ?_
    have : items (.ops ops ops.toList :: k) = .inRegion ops (List.range ops.size) :: items k := by
      simp [items, It.item, List.range_eq_range']
    rw [this]
    exact .one step_region
  case h_8 => injection hc with hc; subst hc; exact hv.of_step itsOk_tail fun _ _ _ _ _ => .one step_inBlock
  case h_9 => injection hc with hc; subst hc; exact hv.of_step itsOk_tail fun _ _ _ _ _ => .one step_inScope
  case h_10 => cases hc

theorem V.cond {c : Operand} {x y : Code} {g : Bool} (hc : e.ev [] c = some (.bool g)) (ht : g = true → V C (.code x :: k) e h L) (hf : g = false → V C (.code y :: k) e h L) : V C (.code (.cond c x y) :: k) e h L := by
  cases g
  · refine (hf rfl).of_step (fun ho => itsOk_code (itsOk_tail ho)) fun a w b cs ag => ?_
    have := step_cond (P := C.P) (b := b) (a := a) (k := items k) (cs := cs) (w := w) (c := c) (x := x) (y := y) (ag.ev (keysOk_nil a) hc)
    exact .one (by simpa [items, It.item] using this)
  · refine (ht rfl).of_step (fun ho => itsOk_code (itsOk_tail ho)) fun a w b cs ag => ?_
    have := step_cond (P := C.P) (b := b) (a := a) (k := items k) (cs := cs) (w := w) (c := c) (x := x) (y := y) (ag.ev (keysOk_nil a) hc)
    exact .one (by simpa [items, It.item] using this)

/-- a loop: a claim on every state that comes to its head, by a measure -/
theorem V.loop {c : Code} {ι : Type} (I : ι → Env × GH × List Ent) (μ : ι → Nat)
    (round : ∀ i, (∀ j, μ j < μ i → V C (.inLoop c :: k) (I j).1 (I j).2.1 (I j).2.2) → V C (.code c :: .inLoop c :: k) (I i).1 (I i).2.1 (I i).2.2)
    (i : ι) (he : (I i) = (e, h, L)) : V C (.code (.loop c) :: k) e h L := by
  have key : ∀ m i, μ i = m → V C (.code c :: .inLoop c :: k) (I i).1 (I i).2.1 (I i).2.2 := by
    intro m
    induction m using Nat.strongRecOn with
    | _ m ih =>
      intro i hi
      refine round i fun j hj => ?_
      exact (ih (μ j) (hi ▸ hj) j rfl).of_step (fun ho => itsOk_code ho) fun _ _ _ _ _ => .one step_inLoop
  have := key (μ i) i rfl
  rw [he] at this
  exact this.of_step (fun ho => itsOk_code (itsOk_loop (itsOk_tail ho))) fun _ _ _ _ _ => .one step_loop

/-! ### leaving -/
theorem V.ret {v : Value} (hk : k = .code .ret :: k.tail ∨ k = [])
    (hr : ∀ a w, Ag C.n e a → St C.w0 h L w → (results C.fn a.tmps).run C.P w = .ok v w) (hR : C.R v h L) : V C k e h L := by
  intro ho a w b cs g s hf hkk
  rcases hk with hk | hk
  · rw [hk]
    refine ⟨v, w, { b.at a (items (.code .ret :: k.tail)) with mode := .returning }, h, L, hR, s, .one step_ret, ?_, ?_⟩
    · exact hf
    · exact ⟨rfl, g.defers, hkk, C.fn, by simpa [Frame.at, hf] using C.hfn, hr a w g s⟩
  · subst hk
    refine ⟨v, w, { b.at a [] with mode := .returning }, h, L, hR, s, .one step_end, hf, ?_⟩
    exact ⟨rfl, g.defers, hkk, C.fn, by simpa [Frame.at, hf] using C.hfn, hr a w g s⟩

/-! ### one operation -/
theorem op_run {P : Program} {ops : Array Oper} {i : Nat} {rest : List Nat} {o : Oper} {b : Frame} {a : Act} {k : List Item} {cs : List Frame} {w : World} {K : Act → World → Prop}
    (ho : ops[i]? = some o) (hw : Region.wanted o (yielded ops a.tmps) = true) (hh : o.wp P a w K (fun _ _ _ => False)) :
    ∃ a' w', K a' w' ∧ Steps P (lone (b.at a (.inRegion ops (i :: rest) :: k)) cs w) (lone (b.at a' (.inRegion ops rest :: k)) cs w') := by
  unfold Oper.wp Oper.upon at hh
  have hg := stepG_op (P := P) (b := b) (k := k) (cs := cs) (w := w) (rest := rest) ho hw
  have hfin : ∀ v, (b.at a (.inRegion ops (i :: rest) :: k)).finish v = b.at (a.put o.dst v) (.inRegion ops rest :: k) := by
    intro v; rw [Frame.finish_at, ho]; rfl
  split at hh
  · rename_i v w' hr
    refine ⟨_, _, hh, .one (step_lone_go ?_)⟩
    rw [hg, ← hfin]; simp [stepG.apply, hr]
  · rename_i w' hr
    refine ⟨_, _, hh, .one (step_lone_go ?_)⟩
    rw [hg, ← hfin]; simp [stepG.apply, hr]
  · rename_i d w' hr
    refine ⟨_, _, hh, .one (step_lone_go ?_)⟩
    have : ({ b.at a (.inRegion ops (i :: rest) :: k) with defers := d :: a.defers } : Frame).finish undef =
        b.at ({ a with defers := d :: a.defers }.put o.dst undef) (.inRegion ops rest :: k) := by
      have := Frame.finish_at b { a with defers := d :: a.defers } ops i rest k undef
      rw [ho] at this; exact this
    rw [hg]; simp only [stepG.apply, Sem.runT_eq, hr, GStep.bare_after]
    exact congrArg (fun fr => GStep.go { frame := fr, callers := cs, status := .running, dying := none } w') this
  · rename_i f args w' hr
    obtain ⟨e, w'', fr, hR, hsteps, _, hleave⟩ := hh (b.at a (.inRegion ops (i :: rest) :: k) :: cs)
    have henter : step P (lone (b.at a (.inRegion ops (i :: rest) :: k)) cs w) =
        .next (lone (Frame.enter P f args .normal) (b.at a (.inRegion ops (i :: rest) :: k) :: cs) w') :=
      step_lone_go (by rw [hg]; simp [stepG.apply, hr, Frame.at])
    cases e with
    | returned v =>
      refine ⟨_, _, hR, .head henter (hsteps.trans (.one ?_))⟩
      rw [← hfin]; exact step_leave_returned hleave
    | panicked chain => exact hR.elim
    | outgrown => obtain ⟨_, _, hq⟩ := hR; exact hq.elim
  · rename_i row args w' hr
    obtain ⟨v, w'', hR, hsteps⟩ := hh (b.at a (.inRegion ops (i :: rest) :: k)) cs
    have henter : step P (lone (b.at a (.inRegion ops (i :: rest) :: k)) cs w) =
        .next (lone (Frame.ofRow P row args .normal) (b.at a (.inRegion ops (i :: rest) :: k) :: cs) w') :=
      step_lone_go (by rw [hg]; simp [stepG.apply, hr, Frame.at])
    refine ⟨_, _, hR, .head henter ?_⟩
    rw [← hfin]; exact hsteps
  · exact hh.elim
  · exact hh.elim

theorem ops_item {all : Array Oper} {o : Oper} {l pre : List Oper} (hp : all.toList = pre ++ o :: l) :
    It.item (.ops all (o :: l)) = .inRegion all (pre.length :: List.range' (pre.length + 1) l.length) ∧
    It.item (.ops all l) = .inRegion all (List.range' (pre.length + 1) l.length) ∧ all[pre.length]? = some o := by
  have hs : all.size = pre.length + (l.length + 1) := by
    have := congrArg List.length hp; simpa using this
  refine ⟨?_, ?_, ?_⟩
  · simp only [It.item, List.length_cons, List.range'_succ]
    rw [show all.size - (l.length + 1) = pre.length by omega]
  · simp only [It.item]
    rw [show all.size - l.length = pre.length + 1 by omega]
  · rw [← Array.getElem?_toList, hp]; simp

/-- what an operation's guard says of this state -/
def onNow (all : Array Oper) (o : Oper) (a : Act) : Bool := Region.wanted o (yielded all a.tmps)

theorem V.op {all : Array Oper} {o : Oper} {l : List Oper}
    (hv : ∀ a w, Ag C.n e a → St C.w0 h L w →
      (onNow all o a = true → o.wp C.P a w (fun a' w' => ∃ e' h' L', Ag C.n e' a' ∧ St C.w0 h' L' w' ∧ V C (.ops all l :: k) e' h' L') (fun _ _ _ => False)) ∧
      (onNow all o a = false → ∃ e' h' L', Ag C.n e' (a.put o.dst undef) ∧ St C.w0 h' L' w ∧ V C (.ops all l :: k) e' h' L')) :
    V C (.ops all (o :: l) :: k) e h L := by
  intro ho a w b cs g s hf hk
  obtain ⟨pre, hp⟩ : ∃ pre, all.toList = pre ++ o :: l := ho _ (List.mem_cons_self ..)
  obtain ⟨i1, i2, i3⟩ := ops_item hp
  have hok : itsOk (.ops all l :: k) := itsOk_ops (pre := pre ++ [o]) (by simp [hp]) (itsOk_tail ho)
  obtain ⟨v1, v2⟩ := hv a w g s
  by_cases hw : onNow all o a = true
  · obtain ⟨a', w', ⟨e', h', L', g', s', hv'⟩, st⟩ := op_run (P := C.P) (b := b) (k := items k) (cs := cs) (rest := List.range' (pre.length + 1) l.length) i3 hw (v1 hw)
    obtain ⟨v, w'', fr, h'', L'', r, s'', st'', e1, e2⟩ := hv' hok a' w' b cs g' s' hf hk
    refine ⟨v, w'', fr, h'', L'', r, s'', ?_, e1, e2⟩
    have x1 : items (.ops all (o :: l) :: k) = .inRegion all (pre.length :: List.range' (pre.length + 1) l.length) :: items k := by simp [items, i1]
    have x2 : items (.ops all l :: k) = .inRegion all (List.range' (pre.length + 1) l.length) :: items k := by simp [items, i2]
    rw [x1]; rw [x2] at st''
    exact st.trans st''
  · have hw : onNow all o a = false := by simpa using hw
    obtain ⟨e', h', L', g', s', hv'⟩ := v2 hw
    obtain ⟨v, w'', fr, h'', L'', r, s'', st'', e1, e2⟩ := hv' hok (a.put o.dst undef) w b cs g' s' hf hk
    refine ⟨v, w'', fr, h'', L'', r, s'', ?_, e1, e2⟩
    have x1 : items (.ops all (o :: l) :: k) = .inRegion all (pre.length :: List.range' (pre.length + 1) l.length) :: items k := by simp [items, i1]
    have x2 : items (.ops all l :: k) = .inRegion all (List.range' (pre.length + 1) l.length) :: items k := by simp [items, i2]
    rw [x1]; rw [x2] at st''
    have hs := step_op_skip (P := C.P) (b := b) (a := a) (k := items k) (cs := cs) (w := w) (ops := all) (i := pre.length) (rest := List.range' (pre.length + 1) l.length) (by simp only [i3, Option.map_some, Option.getD_some]; exact hw)
    rw [i3] at hs
    exact .head hs st''

theorem V.opsNil {all : Array Oper} (hv : V C k ⟨e.us, []⟩ h L) : V C (.ops all [] :: k) e h L := by
  intro ho a w b cs g s hf hk
  obtain ⟨v, w'', fr, h'', L'', r, s'', st'', e1, e2⟩ := hv (itsOk_tail ho) a w b cs g.clear s hf hk
  exact ⟨v, w'', fr, h'', L'', r, s'', .head step_region_end st'', e1, e2⟩

/-- the guard, symbolically -/
theorem gmode_spec {all : Array Oper} {o : Oper} {m : Option (Nat × Bool)} {ks : List (Nat × Bool)} {a : Act} {n : Nat} (g : Ag n e a) (hg : gmode e all o.guard = some (m, ks)) :
    (m = none ∧ onNow all o a = true ∧ keysOk a ks) ∨
    (∃ t b, m = some (t, b) ∧ (onNow all o a = true ↔ a.tmps[t]? = some (.bool b)) ∧ (onNow all o a = true → keysOk a ks)) := by
  cases hgu : o.guard with
  | none =>
    rw [hgu] at hg
    injection hg with hg; injection hg with h1 h2; subst h1; subst h2
    exact .inl ⟨rfl, by simp [onNow, Region.wanted, hgu], keysOk_nil a⟩
  | some x =>
    obtain ⟨j, b⟩ := x
    rw [hgu] at hg
    simp only [gmode] at hg
    split at hg
    · rename_i oj hj
      split at hg
      · rename_i t ht
        injection hg with hg; injection hg with h1 h2; subst h1; subst h2
        rw [nthL_eq] at hj
        have hj' : all[j]? = some oj := by rw [← Array.getElem?_toList]; exact hj
        have hiff : onNow all o a = true ↔ a.tmps[t]? = some (.bool b) := by
          simp only [onNow, Region.wanted, hgu, yielded, hj', Option.bind_some, ht]
          cases hx : a.tmps[t]? with
          | none => simp
          | some v => cases v <;> simp
        refine .inr ⟨t, b, rfl, hiff, fun hon => ?_⟩
        exact g.chain 6 (t, b) (hiff.1 hon)
      · cases hg
    · cases hg

/-- an operation that gives a value and leaves the world alone -/
theorem V.value {all : Array Oper} {o : Oper} {l : List Oper} {m : Option (Nat × Bool)} {ks : List (Nat × Bool)} {v : Value} {e' : Env} (hg : gmode e all o.guard = some (m, ks))
    (hr : ∀ a w, Ag C.n e a → St C.w0 h L w → keysOk a ks → (execOp a.eval o).run C.P w = .ok (.value v) w) (hp : e.put C.n m o.dst v = some e') (hv : V C (.ops all l :: k) e' h L) :
    V C (.ops all (o :: l) :: k) e h L := by
  refine V.op fun a w g s => ?_
  rcases gmode_spec g hg with ⟨rfl, hon, hk⟩ | ⟨t, b, rfl, hiff, hk⟩
  · refine ⟨fun _ => ?_, fun hx => by rw [hon] at hx; cases hx⟩
    unfold Oper.wp
    rw [hr a w g s hk]
    exact ⟨e', h, L, g.put hp, s, hv⟩
  · refine ⟨fun hon => ?_, fun hoff => ?_⟩
    · unfold Oper.wp
      rw [hr a w g s (hk hon)]
      exact ⟨e', h, L, g.putc hp (fun _ => rfl) (fun hx => (hx (hiff.1 hon)).elim), s, hv⟩
    · refine ⟨e', h, L, g.putc hp (fun hx => ?_) (fun _ => rfl), s, hv⟩
      have := hiff.2 hx
      rw [hoff] at this; cases this

/-- an operation whose guard is known to say yes (or that has none): anything it does -/
def gyes (e : Env) (all : Array Oper) : Option (Nat × Bool) → Option (List (Nat × Bool))
  | none => some []
  | some (j, w) => match nthL all.toList j with
    | some o => match o.dst with
      | some t => match look e.us t with
        | some (.bool b) => match b, w with
          | true, true => some [(t, w)]
          | false, false => some [(t, w)]
          | _, _ => none
        | _ => none
      | none => none
    | none => none
def gno (e : Env) (all : Array Oper) : Option (Nat × Bool) → Option Bool
  | none => none
  | some (j, w) => match nthL all.toList j with
    | some o => match o.dst with
      | some t => match look e.us t with
        | some (.bool b) => match b, w with
          | true, false => some true
          | false, true => some true
          | _, _ => none
        | _ => none
      | none => none
    | none => none

theorem gyes_spec {all : Array Oper} {o : Oper} {ks : List (Nat × Bool)} {a : Act} {n : Nat} (g : Ag n e a) (hg : gyes e all o.guard = some ks) : onNow all o a = true ∧ keysOk a ks := by
  cases hgu : o.guard with
  | none =>
    rw [hgu] at hg
    injection hg with hg; subst hg
    exact ⟨by simp [onNow, Region.wanted, hgu], keysOk_nil a⟩
  | some x =>
    obtain ⟨j, w⟩ := x
    rw [hgu] at hg
    simp only [gyes] at hg
    split at hg
    · rename_i oj hj
      rw [nthL_eq] at hj
      have hj' : all[j]? = some oj := by rw [← Array.getElem?_toList]; exact hj
      split at hg
      · rename_i t ht
        split at hg
        · rename_i b hl
          have hb := g.us _ _ hl
          split at hg
          all_goals first
            | (injection hg with hg
               subst hg
               refine And.intro ?_ ?_
               · simp [onNow, Region.wanted, hgu, yielded, hj', ht, hb]
               · intro x y hm
                 simp only [List.mem_singleton, Prod.mk.injEq] at hm
                 obtain ⟨rfl, rfl⟩ := hm
                 exact hb)
            | cases hg
        · cases hg
      · cases hg
    · cases hg

theorem gno_spec {all : Array Oper} {o : Oper} {x : Bool} {a : Act} {n : Nat} (g : Ag n e a) (hg : gno e all o.guard = some x) : onNow all o a = false := by
  cases hgu : o.guard with
  | none => rw [hgu] at hg; cases hg
  | some x =>
    obtain ⟨j, w⟩ := x
    rw [hgu] at hg
    simp only [gno] at hg
    split at hg
    · rename_i oj hj
      rw [nthL_eq] at hj
      have hj' : all[j]? = some oj := by rw [← Array.getElem?_toList]; exact hj
      split at hg
      · rename_i t ht
        split at hg
        · rename_i b hl
          have hb := g.us _ _ hl
          split at hg
          all_goals first | (simp [onNow, Region.wanted, hgu, yielded, hj', ht, hb]; done) | cases hg
        · cases hg
      · cases hg
    · cases hg

theorem V.skip {all : Array Oper} {o : Oper} {l : List Oper} {x : Bool} {e' : Env} (hg : gno e all o.guard = some x) (hp : e.put C.n none o.dst undef = some e') (hv : V C (.ops all l :: k) e' h L) :
    V C (.ops all (o :: l) :: k) e h L :=
  V.op fun a w g s => ⟨fun hon => (by rw [gno_spec g hg] at hon; cases hon), fun _ => ⟨e', h, L, g.put hp, s, hv⟩⟩

/-- part on a slot's truth value -/
theorem V.split (t : Nat) {g : Bool} (hl : look e.us t = some (.bool g)) (ht : g = true → V C k ⟨(t, .bool true) :: e.us, e.cs⟩ h L) (hf : g = false → V C k ⟨(t, .bool false) :: e.us, e.cs⟩ h L) : V C k e h L := by
  intro ho a w b cs ag s h1 h2
  have hb := ag.us _ _ hl
  cases g
  · refine hf rfl ho a w b cs ⟨ag.size, ag.defers, fun u v hu => ?_, ag.cs⟩ s h1 h2
    simp only [look] at hu
    split at hu
    · rename_i hk; have hk := Nat.eq_of_beq_eq_true hk; subst hk; injection hu with hu; subst hu; exact hb
    · exact ag.us _ _ hu
  · refine ht rfl ho a w b cs ⟨ag.size, ag.defers, fun u v hu => ?_, ag.cs⟩ s h1 h2
    simp only [look] at hu
    split at hu
    · rename_i hk; have hk := Nat.eq_of_beq_eq_true hk; subst hk; injection hu with hu; subst hu; exact hb
    · exact ag.us _ _ hu

#print axioms V.op
end Go.Tp
