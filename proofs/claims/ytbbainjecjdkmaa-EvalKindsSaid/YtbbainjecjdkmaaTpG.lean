/-
  (TpG: a statement whose order Go leaves open: one walk in an order of our choice serves every order.)
-/
import Derived.Test.YtbbainjecjdkmaaTpD
namespace Go.Tp
open Go Go.RowKit
set_option linter.unusedVariables false

theorem St.sub {w0 w : World} {h : GH} {L L' : List Ent} (s : St w0 h L w) (hs : L'.Sublist L) : St w0 h L' w :=
  ⟨s.below, s.imm, s.imm1, fun p hp => s.own p (hs.subset hp), s.dis.sublist hs, s.frz⟩
theorem GH.none_of_le {h h' : GH} (hl : h.le h') {b o : Nat} (x : h' b o = none) : h b o = none := by
  cases hh : h b o with
  | none => rfl
  | some v => rw [hl _ _ _ hh] at x; cases x
theorem St.less {w0 w : World} {h h' : GH} {L : List Ent} (s : St w0 h' L w) (hl : h.le h') : St w0 h L w :=
  ⟨s.below, fun b o v x => s.imm _ _ _ (hl _ _ _ x), fun b o v x => s.imm1 _ _ _ (hl _ _ _ x), fun p hp => let q := s.own p hp
    ⟨q.one, q.cell, q.new, q.warm, fun i hi => GH.none_of_le hl (q.fresh i hi), q.obj⟩, s.dis, s.frz⟩

/-! ### the entries that the statement makes, by the operation that makes them -/
abbrev Slots := Nat → Option Ent
def Slots.set (E : Slots) (i : Nat) (x : Option Ent) : Slots := fun j => if j = i then x else E j
theorem Slots.set_comm (E : Slots) {i j : Nat} (hij : i ≠ j) (x y : Option Ent) : (E.set i x).set j y = (E.set j y).set i x := by
  funext k
  by_cases h1 : k = i
  · subst h1; simp [Slots.set, hij]
  · by_cases h2 : k = j
    · subst h2; simp [Slots.set, h1]
    · simp [Slots.set, h1, h2]
theorem Slots.set_self (E : Slots) (i : Nat) (x : Option Ent) : E.set i x i = x := by simp [Slots.set]
theorem Slots.set_ne (E : Slots) {i j : Nat} (h : j ≠ i) (x : Option Ent) : E.set i x j = E j := by simp [Slots.set, h]
def Slots.list (n : Nat) (E : Slots) : List Ent := (List.range n).filterMap E
def Slots.none : Slots := fun _ => Option.none
theorem Slots.list_none (n : Nat) : Slots.list n Slots.none = [] := by simp [Slots.list, Slots.none]

theorem filterMap_set (E : Slots) (i : Nat) (x : Option Ent) : ∀ (l : List Nat), i ∉ l → l.filterMap (E.set i x) = l.filterMap E
  | [], _ => rfl
  | j :: l, h => by
    have hj : j ≠ i := fun e => h (by simp [e])
    have ht : i ∉ l := fun e => h (List.mem_cons_of_mem _ e)
    simp only [List.filterMap_cons, Slots.set_ne E hj, filterMap_set E i x l ht]

theorem filterMap_at (E : Slots) (i : Nat) (x : Ent) : ∀ (l : List Nat), l.Nodup → i ∈ l → (l.filterMap (E.set i (some x))).Perm (x :: l.filterMap (E.set i Option.none))
  | [], _, h => by cases h
  | j :: l, hn, h => by
    have hn' := List.nodup_cons.1 hn
    by_cases hj : j = i
    · subst hj
      simp only [List.filterMap_cons, Slots.set_self]
      rw [filterMap_set E j (some x) l hn'.1, filterMap_set E j Option.none l hn'.1]
    · have hm : i ∈ l := by
        rcases List.mem_cons.1 h with e | e
        · exact absurd e.symm hj
        · exact e
      have ih := filterMap_at E i x l hn'.2 hm
      simp only [List.filterMap_cons, Slots.set_ne E hj]
      cases E j with
      | none => exact ih
      | some y => exact (ih.cons y).trans (List.Perm.swap ..)

theorem Slots.set_same (E : Slots) (i : Nat) : E.set i (E i) = E := by
  funext k; simp only [Slots.set]; by_cases h : k = i
  · rw [if_pos h, h]
  · rw [if_neg h]
theorem Slots.set_set (E : Slots) (i : Nat) (x y : Option Ent) : (E.set i x).set i y = E.set i y := by
  funext k; simp only [Slots.set]; by_cases h : k = i
  · rw [if_pos h, if_pos h]
  · rw [if_neg h, if_neg h, if_neg h]
theorem Slots.list_put {n i : Nat} (hi : i < n) (E : Slots) (x : Ent) : (Slots.list n (E.set i (some x))).Perm (x :: Slots.list n (E.set i Option.none)) :=
  filterMap_at E i x _ List.nodup_range (by simpa using hi)
theorem Slots.list_take {n i : Nat} (hi : i < n) {E : Slots} {x : Ent} (h : E i = some x) : (Slots.list n E).Perm (x :: Slots.list n (E.set i Option.none)) := by
  have := Slots.list_put hi E x
  rwa [show E.set i (some x) = E from by rw [← h]; exact Slots.set_same E i] at this
theorem Slots.list_less {n i : Nat} (E : Slots) : (Slots.list n (E.set i Option.none)).Sublist (Slots.list n E) := by
  unfold Slots.list
  generalize List.range n = l
  induction l with
  | nil => exact .slnil
  | cons j l ih =>
    simp only [List.filterMap_cons]
    by_cases hj : j = i
    · subst hj
      rw [Slots.set_self]
      cases E j with
      | none => exact ih
      | some y => exact ih.cons _
    · rw [Slots.set_ne E hj]
      cases E j with
      | none => exact ih
      | some y => exact ih.cons_cons _

/-- entries handed to the ghost heap -/
def pubH (E : Slots) : List Nat → GH → GH
  | [], h => h
  | j :: D, h => match E j with
    | some x => pubH E D (h.add x.b x.lo x.cs)
    | Option.none => pubH E D h
def pubE : List Nat → Slots → Slots
  | [], E => E
  | j :: D, E => pubE D (E.set j Option.none)
theorem pubE_at : ∀ (D : List Nat) (E : Slots) (k : Nat), pubE D E k = if k ∈ D then Option.none else E k
  | [], E, k => by simp [pubE]
  | j :: D, E, k => by
    rw [pubE, pubE_at D]
    by_cases h1 : k ∈ D
    · simp [h1]
    · by_cases h2 : k = j
      · subst h2; simp [h1, Slots.set_self]
      · simp [h1, h2, Slots.set_ne E h2]
theorem pubH_congr {E E' : Slots} : ∀ (D : List Nat) (h : GH), (∀ j, j ∈ D → E j = E' j) → pubH E D h = pubH E' D h
  | [], _, _ => rfl
  | j :: D, h, hj => by
    simp only [pubH, hj j (List.mem_cons_self ..)]
    cases E' j with
    | none => exact pubH_congr D h fun k hk => hj k (List.mem_cons_of_mem _ hk)
    | some x => exact pubH_congr D _ fun k hk => hj k (List.mem_cons_of_mem _ hk)
theorem pubE_set {E : Slots} {D : List Nat} {i : Nat} {x : Option Ent} (hi : i ∉ D) : pubE D (E.set i x) = (pubE D E).set i x := by
  funext k
  rw [pubE_at]
  by_cases hk : k = i
  · subst hk; rw [if_neg hi, Slots.set_self, Slots.set_self]
  · rw [Slots.set_ne _ hk, Slots.set_ne _ hk, pubE_at]

inductive Kd where
  | qt | mk | cl | st
def kd (o : Oper) : Kd := match o.op with
  | .alloc _ => .mk
  | .box _ _ => .mk
  | .buildSlice _ _ _ => .mk
  | .call c => match c.callee with
    | .value _ => .cl
    | _ => .qt
  | .store _ _ _ => .st
  | _ => .qt
def isCall (o : Oper) : Bool := match kd o with
  | .cl => true
  | _ => false

def entOf (o : Oper) (a : Act) : Option (FuncId × List Value) := match o.op with
  | .call c => match c.callee with
    | .value x => match a.eval x with
      | .func (.func f) fst cap => some (f, fst.toList ++ (c.args.toList.map a.eval ++ cap.toList))
      | _ => none
    | _ => none
  | _ => none

/-- the cells of a slice's literal -/
def litL (S : TT) (ρ : Operand → Option Value) (t : TypeId) (len : Nat) (parts : List (Nat × Operand)) : Option (List Value) :=
  match S.get t with
  | some ti => match ti.d with
    | .slice el => match S.get el with
      | some ei => match Nat.beq (len * ei.size) 0 with
        | true => none
        | false => match Nat.ble (len * ei.size) 16777216 with
          | true => layL (fun i => some (i * ei.size, ei.size)) ρ parts ((List.replicate len ei.zero).flatten)
          | false => none
      | none => none
    | _ => none
  | none => none

def mkOf (S : TT) (o : Oper) (a : Act) : Option (List Value × Option Nat) := match o.op with
  | .alloc t => match S.get t with
    | some ti => some (ti.zero, none)
    | none => none
  | .box _ x => some (cellsL (a.eval x), none)
  | .buildSlice t len parts => match litL S (fun x => some (a.eval x)) t len parts.toList with
    | some cs => some (cs, some len)
    | none => none
  | _ => none
def mkVal : Option Nat → Nat → Value
  | none, b => .pointer (some ⟨b, 0, Option.none⟩)
  | some n, b => .slice (some ⟨b, 0, Option.none⟩) n n

def stOf (o : Oper) (a : Act) : Option (TypeId × Nat × Nat × Value) := match o.op with
  | .store t p y => match a.eval p with
    | .pointer (some ⟨b, off, Option.none⟩) => some (t, b, off, a.eval y)
    | _ => none
  | _ => none

/-- what is known behind the publishing -/
def PubOk (E : Slots) (ps : List Nat) (h : GH) : Prop := h.le (pubH E ps h) ∧ ∀ j, j ∈ ps → ∀ x, E j = some x → ∀ i v, x.cs[i]? = some v → pubH E ps h x.b (x.lo + i) = some v
theorem PubOk.congr {E E' : Slots} {ps : List Nat} {h : GH} (he : ∀ j, j ∈ ps → E j = E' j) (r : PubOk E ps h) : PubOk E' ps h := by
  have hH := pubH_congr ps h he
  refine ⟨hH ▸ r.1, fun j hj x hx => ?_⟩
  rw [← hH]
  exact r.2 j hj x (by rw [he j hj]; exact hx)
structure Rg where
  C : Cfg
  all : Array Oper
  L0 : List Ent
  pubs : Nat → List Nat
  Y : Nat → List Value → Value → GH → Prop
  Fin : Act → GH → Slots → Prop

def Rg.anc (G : Rg) (i j : Nat) : Bool := ((Region.before G.all).getD i 0).testBit j
def Rg.Rz (G : Rg) (h : GH) : Prop := ∃ w, St G.C.w0 h G.L0 w
def Rg.live (G : Rg) (h : GH) (E : Slots) (w : World) : Prop := St G.C.w0 h (Slots.list G.all.size E ++ G.L0) w
def Rg.Quiet (G : Rg) (o : Oper) (a : Act) (h : GH) (v : Value) : Prop := ∀ E w, St G.C.w0 h (E ++ G.L0) w → (execOp a.eval o).run G.C.P w = .ok (.value v) w

def Rg.Node (G : Rg) (i : Nat) (o : Oper) (a : Act) (h : GH) (E : Slots) (K : Act → GH → Slots → Prop) : Prop :=
  match onNow G.all o a with
  | false => K (a.put o.dst undef) h E
  | true => match kd o with
    | .qt => ∃ v, G.Quiet o a h v ∧ K (a.put o.dst v) h E
    | .mk => ∃ cs sh, mkOf G.C.S o a = some (cs, sh) ∧ allOne cs = true ∧ E i = none ∧ ∀ b, K (a.put o.dst (mkVal sh b)) h (E.set i (some ⟨b, 0, cs, none⟩))
    | .cl => ∃ f args, entOf o a = some (f, args) ∧
        (PubOk E (G.pubs i) h → ∀ L, Does G.C.P G.C.w0 f args (pubH E (G.pubs i) h) L (fun v h' L' => L' = L ∧ (pubH E (G.pubs i) h).le h' ∧ G.Y i args v h')) ∧
        ∀ v h', (pubH E (G.pubs i) h).le h' → h.le h' → G.Rz h' → G.Y i args v h' → K (a.put o.dst v) h' (pubE (G.pubs i) E)
    | .st => ∃ t b off v j x x' ti, stOf o a = some (t, b, off, v) ∧ G.C.S.get t = some ti ∧ G.pubs i = [j] ∧ E j = some x ∧ x.b = b ∧ stV ti x off v = some x' ∧ o.dst = none ∧ K a h (E.set j (some x'))

def Rg.W (G : Rg) : List Nat → Act → GH → Slots → Prop
  | [], a, h, E => G.Fin a h E
  | i :: π, a, h, E => ∃ o, G.all[i]? = some o ∧ G.Node i o a h E (G.W π)

/-! ### an operation looks only where it looks -/
section looks
variable {G : Rg} {oi oj : Oper} {a : Act} {u : Value}

theorem apart_eval {x y : Oper} (hap : x.apart G.all y = true) (hsel : ∀ cs b, y.op ≠ .select cs b) (a : Act) (u : Value) : execOp (a.put x.dst u).eval y = execOp a.eval y :=
  execOp_put y hsel a x.dst u (Oper.apart_spec hap).1
theorem apart_on {x y : Oper} (hap : x.apart G.all y = true) (a : Act) (u : Value) : onNow G.all y (a.put x.dst u) = onNow G.all y a :=
  wanted_put y a x.dst u (Oper.apart_spec hap).1
theorem apart_symm {x y : Oper} (hap : x.apart G.all y = true) : y.apart G.all x = true := by
  obtain ⟨h1, h2, h3⟩ := Oper.apart_spec hap
  unfold Oper.apart
  cases hy : y.dst with
  | none =>
    cases hx : x.dst with
    | none => rfl
    | some d => simp only [Bool.true_and]; simpa using h1 d hx
  | some d =>
    cases hx : x.dst with
    | none => simpa using h3 d hy
    | some d' =>
      have e1 := h1 d' hx
      have e2 := h2 d' hx
      have e3 := h3 d hy
      rw [hy] at e2
      simp only [Bool.and_eq_true]
      refine ⟨⟨by simpa using e3, ?_⟩, by simpa using e1⟩
      simp only [bne_iff_ne, ne_eq]
      exact fun e => e2 e.symm

theorem put_comm' {x y : Oper} (hap : x.apart G.all y = true) (a : Act) (u v : Value) : (a.put x.dst u).put y.dst v = (a.put y.dst v).put x.dst u :=
  Act.put_comm a u v (Oper.apart_spec hap).2.1

theorem eval_put {x y : Oper} (hap : x.apart G.all y = true) (a : Act) (u : Value) {z : Operand} (hz : z ∈ y.op.operands.toList) : (a.put x.dst u).eval z = a.eval z := by
  cases z with
  | tmp t =>
    cases hx : x.dst with
    | none => rfl
    | some d =>
      have h1 := (Oper.apart_spec hap).1 d hx
      have hne : t ≠ d := by
        intro e; subst e
        apply h1
        unfold Oper.looksAt
        apply List.mem_append_left
        rw [List.mem_filterMap]
        exact ⟨_, hz, rfl⟩
      simp only [Act.eval, Array.getD_eq_getD_getElem?, getElem?_put_ne hne]
  | const v => rfl
  | global g => rfl
  | func f => rfl

theorem entOf_put {x y : Oper} (hap : x.apart G.all y = true) (a : Act) (u : Value) : entOf y (a.put x.dst u) = entOf y a := by
  unfold entOf
  cases hop : y.op <;> try rfl
  rename_i c
  simp only
  cases hc : c.callee with
  | value z =>
    have h1 : (a.put x.dst u).eval z = a.eval z := eval_put hap a u (by simp [hop, Op.operands, Call.operands, hc])
    have h2 : c.args.toList.map (a.put x.dst u).eval = c.args.toList.map a.eval :=
      List.map_congr_left fun z hz => eval_put hap a u (by rw [hop]; simp only [Op.operands, Call.operands, hc, Array.toList_append]; exact List.mem_append_right _ hz)
    simp only [h1, h2]
  | invoke r m => rfl
  | builtin b => rfl

theorem layL_congr {place : Nat → Option (Nat × Nat)} {ρ ρ' : Operand → Option Value} : ∀ (parts : List (Nat × Operand)) (cs : List Value), (∀ p, p ∈ parts → ρ p.2 = ρ' p.2) → layL place ρ parts cs = layL place ρ' parts cs
  | [], _, _ => rfl
  | (i, x) :: r, cs, hp => by
    have h1 := hp (i, x) (List.mem_cons_self ..)
    simp only at h1
    simp only [layL, h1]
    cases ρ' x with
    | none => rfl
    | some v =>
      simp only
      cases place i with
      | none => rfl
      | some q =>
        obtain ⟨off, sz⟩ := q
        simp only
        split
        · split
          · exact layL_congr r _ fun p hp' => hp p (List.mem_cons_of_mem _ hp')
          · rfl
        · rfl

theorem mkOf_put {S : TT} {x y : Oper} (hap : x.apart G.all y = true) (a : Act) (u : Value) : mkOf S y (a.put x.dst u) = mkOf S y a := by
  unfold mkOf
  cases hop : y.op <;> try rfl
  case box t z =>
    have h1 : (a.put x.dst u).eval z = a.eval z := eval_put hap a u (by simp [hop, Op.operands])
    simp only [h1]
  case buildSlice t len parts =>
    have : litL S (fun x_1 => some ((a.put x.dst u).eval x_1)) t len parts.toList = litL S (fun x => some (a.eval x)) t len parts.toList := by
      unfold litL
      split
      · split
        · split
          · split
            · rfl
            · split
              · refine layL_congr _ _ fun p hp => ?_
                rw [eval_put hap a u]
                simp only [hop, Op.operands, List.toList_toArray, List.mem_map]
                exact ⟨p, hp, rfl⟩
              · rfl
          · rfl
        · rfl
      · rfl
    simp only [this]

theorem stOf_put {x y : Oper} (hap : x.apart G.all y = true) (a : Act) (u : Value) : stOf y (a.put x.dst u) = stOf y a := by
  unfold stOf
  cases hop : y.op <;> try rfl
  case store t p z =>
    have h1 : (a.put x.dst u).eval p = a.eval p := eval_put hap a u (by simp [hop, Op.operands])
    have h2 : (a.put x.dst u).eval z = a.eval z := eval_put hap a u (by simp [hop, Op.operands])
    simp only [h1, h2]
end looks

theorem Rg.Quiet.uniq {G : Rg} {o : Oper} {a : Act} {h : GH} {v v' : Value} (z : G.Rz h) (x : G.Quiet o a h v) (y : G.Quiet o a h v') : v = v' := by
  obtain ⟨w, s⟩ := z
  have e1 := x [] w s
  have e2 := y [] w s
  rw [e1] at e2
  injection e2 with e2
  injection e2
theorem Rg.Quiet.mono {G : Rg} {o : Oper} {a : Act} {h h' : GH} {v : Value} (hl : h.le h') (x : G.Quiet o a h v) : G.Quiet o a h' v := fun E w s => x E w (s.less hl)

/-- K can be turned into K' behind an operation -/
theorem Rg.Node.map {G : Rg} {i : Nat} {o : Oper} {a : Act} {h : GH} {E : Slots} {K K' : Act → GH → Slots → Prop} (hk : ∀ a h E, K a h E → K' a h E) (x : G.Node i o a h E K) : G.Node i o a h E K' := by
  unfold Rg.Node at *
  split
  · rename_i h0; rw [h0] at x; exact hk _ _ _ x
  · rename_i h0; rw [h0] at x; simp only at x
    split
    · rename_i h1; rw [h1] at x; obtain ⟨v, x1, x2⟩ := x; exact ⟨v, x1, hk _ _ _ x2⟩
    · rename_i h1; rw [h1] at x; obtain ⟨cs, sh, x1, x2, x3, x4⟩ := x; exact ⟨cs, sh, x1, x2, x3, fun b => hk _ _ _ (x4 b)⟩
    · rename_i h1; rw [h1] at x; obtain ⟨f, args, x1, x2, x3⟩ := x; exact ⟨f, args, x1, x2, fun v h' y1 y2 y3 y4 => hk _ _ _ (x3 v h' y1 y2 y3 y4)⟩
    · rename_i h1; rw [h1] at x; obtain ⟨t, b, off, v, j, y, y', ti, x1, x2, x3, x4, x5, x6, x7, x8⟩ := x; exact ⟨t, b, off, v, j, y, y', ti, x1, x2, x3, x4, x5, x6, x7, hk _ _ _ x8⟩

/-- **two operations apart, the first no call: they may change places** -/
theorem Rg.swap {G : Rg} {i j : Nat} {oi oj : Oper} {a : Act} {h : GH} {E : Slots} {K : Act → GH → Slots → Prop} (hij : i ≠ j) (hap : oj.apart G.all oi = true) (hcall : isCall oj = false)
    (hsi : ∀ cs b, oi.op ≠ .select cs b) (hsj : ∀ cs b, oj.op ≠ .select cs b)
    (hi1 : j ∉ G.pubs i) (hj1 : i ∉ G.pubs j) (hd : ∀ k, k ∈ G.pubs i → k ∉ G.pubs j) (z : G.Rz h)
    (x : G.Node j oj a h E (fun a' h' E' => G.Node i oi a' h' E' K)) : G.Node i oi a h E (fun a' h' E' => G.Node j oj a' h' E' K) := by
  have hap' := apart_symm (G := G) hap
  -- what j's own place says, whatever stands before it
  have onj : ∀ u, onNow G.all oj (a.put oi.dst u) = onNow G.all oj a := fun u => apart_on hap' a u
  have oni : ∀ u, onNow G.all oi (a.put oj.dst u) = onNow G.all oi a := fun u => apart_on hap a u
  have cm : ∀ u v, (a.put oj.dst u).put oi.dst v = (a.put oi.dst v).put oj.dst u := fun u v => put_comm' hap a u v
  have qi : ∀ (g : GH) u v, G.Quiet oi (a.put oj.dst u) g v ↔ G.Quiet oi a g v := fun g u v => by
    unfold Rg.Quiet; rw [apart_eval hap hsi a u]
  have qj : ∀ (g : GH) u v, G.Quiet oj (a.put oi.dst u) g v ↔ G.Quiet oj a g v := fun g u v => by
    unfold Rg.Quiet; rw [apart_eval hap' hsj a u]
  -- j's step, as a move on states: the values that it may give and what it does to the entries
  -- (one lemma a kind of j)
  unfold Rg.Node at x
  cases hoj : onNow G.all oj a with
  | false =>
    rw [hoj] at x
    simp only at x
    -- j is passed over
    unfold Rg.Node
    rw [oni] at x
    cases hoi : onNow G.all oi a with
    | false =>
      rw [hoi] at x; simp only at x ⊢
      rw [onj, hoj]; simp only; rw [← cm]; exact x
    | true =>
      rw [hoi] at x; simp only at x ⊢
      cases hk : kd oi with
      | qt =>
        rw [hk] at x; simp only at x ⊢
        obtain ⟨v, x1, x2⟩ := x
        refine ⟨v, (qi _ _ _).1 x1, ?_⟩
        rw [onj, hoj]; simp only; rw [← cm]; exact x2
      | mk =>
        rw [hk] at x; simp only at x ⊢
        obtain ⟨cs, sh, x1, x2, x3, x4⟩ := x
        rw [mkOf_put hap] at x1
        refine ⟨cs, sh, x1, x2, x3, fun b => ?_⟩
        rw [onj, hoj]; simp only; rw [← cm]; exact x4 b
      | cl =>
        rw [hk] at x; simp only at x ⊢
        obtain ⟨f, args, x1, x2, x3⟩ := x
        rw [entOf_put hap] at x1
        refine ⟨f, args, x1, x2, fun v h' y1 y2 y3 y4 => ?_⟩
        rw [onj, hoj]; simp only; rw [← cm]; exact x3 v h' y1 y2 y3 y4
      | st =>
        rw [hk] at x; simp only at x ⊢
        obtain ⟨t, b, off, v, s, y, y', ti, x1, x2, x3, x4, x5, x6, x7, x8⟩ := x
        rw [stOf_put hap] at x1
        refine ⟨t, b, off, v, s, y, y', ti, x1, x2, x3, x4, x5, x6, x7, ?_⟩
        rw [hoj]; exact x8
  | true =>
    rw [hoj] at x
    simp only at x
    cases hkj : kd oj with
    | cl => simp [isCall, hkj] at hcall
    | qt =>
      rw [hkj] at x; simp only at x
      obtain ⟨vj, j1, x⟩ := x
      unfold Rg.Node
      rw [oni] at x
      cases hoi : onNow G.all oi a with
      | false =>
        rw [hoi] at x; simp only at x ⊢
        rw [onj, hoj, hkj]; exact ⟨vj, (qj _ _ _).2 j1, by rw [← cm]; exact x⟩
      | true =>
        rw [hoi] at x; simp only at x ⊢
        cases hk : kd oi with
        | qt =>
          rw [hk] at x; simp only at x ⊢
          obtain ⟨v, x1, x2⟩ := x
          refine ⟨v, (qi _ _ _).1 x1, ?_⟩
          rw [onj, hoj, hkj]; exact ⟨vj, (qj _ _ _).2 j1, by rw [← cm]; exact x2⟩
        | mk =>
          rw [hk] at x; simp only at x ⊢
          obtain ⟨cs, sh, x1, x2, x3, x4⟩ := x
          rw [mkOf_put hap] at x1
          refine ⟨cs, sh, x1, x2, x3, fun b => ?_⟩
          rw [onj, hoj, hkj]; exact ⟨vj, (qj _ _ _).2 j1, by rw [← cm]; exact x4 b⟩
        | cl =>
          rw [hk] at x; simp only at x ⊢
          obtain ⟨f, args, x1, x2, x3⟩ := x
          rw [entOf_put hap] at x1
          refine ⟨f, args, x1, x2, fun v h' y1 y2 y3 y4 => ?_⟩
          rw [onj, hoj, hkj]; exact ⟨vj, (qj _ _ _).2 (j1.mono y2), by rw [← cm]; exact x3 v h' y1 y2 y3 y4⟩
        | st =>
          rw [hk] at x; simp only at x ⊢
          obtain ⟨t, b, off, v, s, y, y', ti, x1, x2, x3, x4, x5, x6, x7, x8⟩ := x
          rw [stOf_put hap] at x1
          refine ⟨t, b, off, v, s, y, y', ti, x1, x2, x3, x4, x5, x6, x7, ?_⟩
          rw [hoj, hkj]; exact ⟨vj, j1, x8⟩
    | mk =>
      rw [hkj] at x; simp only at x
      obtain ⟨cj, sj, j1, j2, j3, x⟩ := x
      unfold Rg.Node
      simp only [oni] at x
      cases hoi : onNow G.all oi a with
      | false =>
        rw [hoi] at x; simp only at x ⊢
        rw [onj, hoj, hkj]
        exact ⟨cj, sj, by rw [mkOf_put hap']; exact j1, j2, j3, fun b => by rw [← cm]; exact x b⟩
      | true =>
        rw [hoi] at x; simp only at x ⊢
        cases hk : kd oi with
        | qt =>
          rw [hk] at x; simp only at x ⊢
          obtain ⟨v, x1, x2⟩ := x 0
          have x1 := (qi _ _ _).1 x1
          refine ⟨v, x1, ?_⟩
          rw [onj, hoj, hkj]
          refine ⟨cj, sj, by rw [mkOf_put hap']; exact j1, j2, j3, fun b => ?_⟩
          obtain ⟨v', y1, y2⟩ := x b
          have : v' = v := Rg.Quiet.uniq z ((qi _ _ _).1 y1) x1
          subst this
          rw [← cm]; exact y2
        | mk =>
          rw [hk] at x; simp only at x ⊢
          obtain ⟨cs, sh, x1, x2, x3, x4⟩ := x 0
          rw [mkOf_put hap] at x1
          rw [Slots.set_ne E hij] at x3
          refine ⟨cs, sh, x1, x2, x3, fun b => ?_⟩
          rw [onj, hoj, hkj]
          refine ⟨cj, sj, by rw [mkOf_put hap']; exact j1, j2, by rw [Slots.set_ne E (Ne.symm hij)]; exact j3, fun b' => ?_⟩
          obtain ⟨cs', sh', y1, y2, y3, y4⟩ := x b'
          rw [mkOf_put hap, x1] at y1
          injection y1 with y1; injection y1 with e1 e2; subst e1; subst e2
          rw [← cm, Slots.set_comm E hij]; exact y4 b
        | cl =>
          rw [hk] at x; simp only at x ⊢
          obtain ⟨f, args, x1, x2, x3⟩ := x 0
          rw [entOf_put hap] at x1
          have hH : ∀ b, pubH (E.set j (some ⟨b, 0, cj, none⟩)) (G.pubs i) h = pubH E (G.pubs i) h := fun b => pubH_congr _ _ fun k hk => Slots.set_ne E (fun e => hi1 (by rw [← e]; exact hk)) _
          refine ⟨f, args, x1, fun pk L => by have := x2 (pk.congr fun k hk => (Slots.set_ne E (fun e => hi1 (by rw [← e]; exact hk)) _).symm) L; rw [hH] at this; exact this, fun v h' y1 y2 y3 y4 => ?_⟩
          rw [onj, hoj, hkj]
          refine ⟨cj, sj, by rw [mkOf_put hap']; exact j1, j2, by rw [pubE_at, j3]; simp, fun b => ?_⟩
          obtain ⟨f', args', u1, u2, u3⟩ := x b
          rw [entOf_put hap, x1] at u1
          injection u1 with u1; injection u1 with e1 e2; subst e1; subst e2
          have := u3 v h' (by rw [hH]; exact y1) y2 y3 y4
          rw [← cm, ← pubE_set hi1]; exact this
        | st =>
          rw [hk] at x; simp only at x ⊢
          obtain ⟨t, b, off, v, s, y, y', ti, x1, x2, x3, x4, x5, x6, x7, x8⟩ := x 0
          rw [stOf_put hap] at x1
          have hs : s ≠ j := fun e => hi1 (by rw [x3, e]; exact List.mem_singleton.2 rfl)
          rw [Slots.set_ne E hs] at x4
          refine ⟨t, b, off, v, s, y, y', ti, x1, x2, x3, x4, x5, x6, x7, ?_⟩
          rw [hoj, hkj]
          refine ⟨cj, sj, j1, j2, by rw [Slots.set_ne E (Ne.symm hs)]; exact j3, fun b' => ?_⟩
          obtain ⟨t2, b2, off2, v2, s2, z1, z2, ti2, u1, u2, u3, u4, u5, u6, u7, u8⟩ := x b'
          rw [stOf_put hap, x1] at u1
          injection u1 with u1; injection u1 with e1 u1; injection u1 with e2 u1; injection u1 with e3 e4
          subst e1; subst e2; subst e3; subst e4
          rw [x2] at u2; injection u2 with u2; subst u2
          rw [x3] at u3; injection u3 with u3 _; subst u3
          rw [Slots.set_ne E hs, x4] at u4; injection u4 with u4; subst u4
          rw [x6] at u6; injection u6 with u6; subst u6
          rw [Slots.set_comm E hs]; exact u8
    | st =>
      rw [hkj] at x; simp only at x
      obtain ⟨tj, bj, offj, vj, sj, yj, yj', tij, j1, j2, j3, j4, j5, j6, j7, x⟩ := x
      have hpj : ∀ u, a.put oj.dst u = a := fun u => by rw [j7]; rfl
      unfold Rg.Node
      cases hoi : onNow G.all oi a with
      | false =>
        rw [hoi] at x; simp only at x ⊢
        rw [onj, hoj, hkj]
        exact ⟨tj, bj, offj, vj, sj, yj, yj', tij, by rw [stOf_put hap']; exact j1, j2, j3, j4, j5, j6, j7, x⟩
      | true =>
        rw [hoi] at x; simp only at x ⊢
        cases hk : kd oi with
        | qt =>
          rw [hk] at x; simp only at x ⊢
          obtain ⟨v, x1, x2⟩ := x
          refine ⟨v, x1, ?_⟩
          rw [onj, hoj, hkj]
          exact ⟨tj, bj, offj, vj, sj, yj, yj', tij, by rw [stOf_put hap']; exact j1, j2, j3, j4, j5, j6, j7, x2⟩
        | mk =>
          rw [hk] at x; simp only at x ⊢
          obtain ⟨cs, sh, x1, x2, x3, x4⟩ := x
          have hs : i ≠ sj := fun e => hj1 (by rw [j3, e]; exact List.mem_singleton.2 rfl)
          rw [Slots.set_ne E hs] at x3
          refine ⟨cs, sh, x1, x2, x3, fun b => ?_⟩
          rw [onj, hoj, hkj]
          refine ⟨tj, bj, offj, vj, sj, yj, yj', tij, by rw [stOf_put hap']; exact j1, j2, j3, by rw [Slots.set_ne E (Ne.symm hs)]; exact j4, j5, j6, j7, ?_⟩
          rw [Slots.set_comm E hs]; exact x4 b
        | cl =>
          rw [hk] at x; simp only at x ⊢
          obtain ⟨f, args, x1, x2, x3⟩ := x
          have hs : sj ∉ G.pubs i := fun e => hd sj e (by rw [j3]; exact List.mem_singleton.2 rfl)
          have hH : pubH (E.set sj (some yj')) (G.pubs i) h = pubH E (G.pubs i) h := pubH_congr _ _ fun k hk => Slots.set_ne E (fun e => hs (by rw [← e]; exact hk)) _
          rw [hH] at x2 x3
          refine ⟨f, args, x1, fun pk => x2 (pk.congr fun k hk => (Slots.set_ne E (fun e => hs (by rw [← e]; exact hk)) _).symm), fun v h' y1 y2 y3 y4 => ?_⟩
          rw [onj, hoj, hkj]
          refine ⟨tj, bj, offj, vj, sj, yj, yj', tij, by rw [stOf_put hap']; exact j1, j2, j3, by rw [pubE_at, if_neg hs]; exact j4, j5, j6, j7, ?_⟩
          rw [← pubE_set hs]; exact x3 v h' y1 y2 y3 y4
        | st =>
          rw [hk] at x; simp only at x ⊢
          obtain ⟨t, b, off, v, s, y, y', ti, x1, x2, x3, x4, x5, x6, x7, x8⟩ := x
          have hs : s ≠ sj := fun e => hd s (by rw [x3]; exact List.mem_singleton.2 rfl) (by rw [j3, e]; exact List.mem_singleton.2 rfl)
          rw [Slots.set_ne E hs] at x4
          refine ⟨t, b, off, v, s, y, y', ti, x1, x2, x3, x4, x5, x6, x7, ?_⟩
          rw [hoj, hkj]
          refine ⟨tj, bj, offj, vj, sj, yj, yj', tij, j1, j2, j3, by rw [Slots.set_ne E (Ne.symm hs)]; exact j4, j5, j6, j7, ?_⟩
          rw [Slots.set_comm E hs]; exact x8

#print axioms Rg.swap
end Go.Tp
