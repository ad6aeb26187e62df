/-
  (TpD: memory: variables, rows of cells, calls, what is handed back.)
-/
import Derived.Test.YtbbainjecjdkmaaTpC
namespace Go.Tp
open Go Go.RowKit
set_option linter.unusedVariables false

/-- where an owned block is -/
class EntAt (L : List Ent) (b : Nat) (x : outParam Ent) : Prop where
  mem : x ∈ L
  blk : x.b = b
instance EntAt.here {b lo : Nat} {cs : List Value} {ob : Option Obj} {L : List Ent} : EntAt (⟨b, lo, cs, ob⟩ :: L) b ⟨b, lo, cs, ob⟩ := ⟨List.mem_cons_self .., rfl⟩
instance (priority := low) EntAt.there {y x : Ent} {L : List Ent} {b : Nat} [i : EntAt L b x] : EntAt (y :: L) b x := ⟨List.mem_cons_of_mem _ i.mem, i.blk⟩
/-- .. turned into another -/
class EntUp (L : List Ent) (b : Nat) (x x' : Ent) (L' : outParam (List Ent)) : Prop where
  split : ∃ L1 L2, L = L1 ++ x :: L2 ∧ L' = L1 ++ x' :: L2
instance EntUp.here {b lo : Nat} {cs : List Value} {ob : Option Obj} {x' : Ent} {L : List Ent} : EntUp (⟨b, lo, cs, ob⟩ :: L) b ⟨b, lo, cs, ob⟩ x' (x' :: L) := ⟨[], L, rfl, rfl⟩
instance (priority := low) EntUp.there {y x x' : Ent} {L L' : List Ent} {b : Nat} [i : EntUp L b x x' L'] : EntUp (y :: L) b x x' (y :: L') :=
  ⟨let ⟨L1, L2, h1, h2⟩ := i.split; ⟨y :: L1, L2, by rw [h1]; rfl, by rw [h2]; rfl⟩⟩

/-! ### reading and writing cells -/
def cellsAt (w : World) (b o : Nat) (vs : List Value) : Prop := ∀ i v, vs[i]? = some v → w.cell? ⟨b, o + i, none⟩ = some v

section
variable {P : Program} {w w0 : World} {t : TypeId} {ti : TI} {h : GH} {L : List Ent}

theorem run_loadCellsAt {b o : Nat} {vs : List Value} (hc : cellsAt w b o vs) : (loadCells ⟨b, o, none⟩ vs.length).run P w = .ok ⟨vs⟩ w := by
  have := run_loadCells_list (P := P) (w := w) ⟨b, o, none⟩ vs (fun j v hv => by rw [add_norm]; exact hc j v hv)
  simpa using this

theorem run_loadAt_agg (ok : TI.Ok P t ti) (ha : ti.agg = true) {b o : Nat} {vs : List Value} (hc : cellsAt w b o vs) (hl : vs.length = ti.size) :
    (Instr.loadAt t (.pointer (some ⟨b, o, none⟩))).run P w = .ok (.agg ⟨vs⟩) w := by
  simp only [Instr.loadAt, Instr.sureAddr, loadVar, Sem.run_bind, Sem.run_pure, Result.andThen_ok, run_isAgg ok, ha, if_true, run_sizeOf ok]
  rw [← hl, run_loadCellsAt hc]; rfl

theorem run_loadAt_one (ok : TI.Ok P t ti) (ha : ti.agg = false) {b o : Nat} {v : Value} (hc : w.cell? ⟨b, o, none⟩ = some v) :
    (Instr.loadAt t (.pointer (some ⟨b, o, none⟩))).run P w = .ok v w := by
  simp [Instr.loadAt, Instr.sureAddr, loadVar, Sem.run_bind, run_isAgg ok, ha, hc]

theorem run_storeCells : ∀ (vs : List Value) (b o i : Nat) (w : World) {L1 : List Ent} {lo k : Nat} {cs : List Value} {ob : Option Obj}, St w0 h (L1 ++ ⟨b, lo, cs, ob⟩ :: L) w →
    o + i = lo + k → k + vs.length ≤ cs.length → (∀ v, v ∈ vs → oneC v = true) → ∀ {r : List Value}, updL cs k vs = some r →
    ∃ w', (storeCells ⟨b, o, none⟩ vs i).run P w = .ok () w' ∧ St w0 h (L1 ++ ⟨b, lo, r, ob⟩ :: L) w'
  | [], b, o, i, w, L1, lo, k, cs, ob, s, ho, hk, h1, r, hr => by
    obtain ⟨_, hl, h3⟩ := updL_spec _ _ _ hr
    have : r = cs := by
      apply List.ext_getElem?; intro j; rw [h3 j, if_neg (by simp <;> omega)]
    subst this
    exact ⟨w, rfl, s⟩
  | v :: vs, b, o, i, w, L1, lo, k, cs, ob, s, ho, hk, h1, r, hr => by
    have hv1 := h1 v (List.mem_cons_self ..)
    have hkl : k < cs.length := by simp at hk; omega
    obtain ⟨u, hu⟩ := getElem?_some_of_lt hkl
    have q := s.own ⟨b, lo, cs, ob⟩ (by simp)
    have hc := q.cell k u hu
    have hf := q.warm k hkl
    have s1 := s.setCell hkl v hv1
    have hr1 : ∃ r1, updL (cs.set k v) (k + 1) vs = some r1 := by
      have key : ∀ (l : List Value) (k : Nat) (us : List Value), k + us.length ≤ l.length → ∃ r', updL l k us = some r' := by
        intro l
        induction l with
        | nil => intro k us hk; simp at hk; obtain ⟨rfl, rfl⟩ := hk; exact ⟨[], by simp [updL]⟩
        | cons c l ih =>
          intro k us hk
          cases k with
          | zero =>
            cases us with
            | nil => exact ⟨c :: l, by simp [updL]⟩
            | cons u us =>
              obtain ⟨r', hr'⟩ := ih 0 us (by simp at hk; omega)
              exact ⟨u :: r', by simp [updL, hr']⟩
          | succ k =>
            obtain ⟨r', hr'⟩ := ih k us (by simp at hk; omega)
            exact ⟨c :: r', by simp [updL, hr']⟩
      exact key _ _ _ (by simp at hk ⊢; omega)
    obtain ⟨r1, hr1⟩ := hr1
    have hrr : r1 = r := by
      obtain ⟨_, g2, g3⟩ := updL_spec _ _ _ hr1
      obtain ⟨_, f2, f3⟩ := updL_spec _ _ _ hr
      apply List.ext_getElem?; intro j
      rw [g3 j, f3 j]
      simp only [List.length_cons]
      by_cases hj : j = k
      · subst hj
        rw [if_neg (by omega), if_pos (by omega), List.getElem?_set_self hkl, Nat.sub_self]; rfl
      · by_cases hj2 : k + 1 ≤ j ∧ j < k + 1 + vs.length
        · rw [if_pos hj2, if_pos (by omega), show j - k = (j - (k + 1)) + 1 by omega]; simp
        · rw [if_neg hj2, if_neg (by omega), List.getElem?_set_ne (Ne.symm hj)]
    subst hrr
    obtain ⟨w', hw', s'⟩ := run_storeCells vs b o (i + 1) _ s1 (by omega) (by simp at hk ⊢; omega) (fun x hx => h1 x (List.mem_cons_of_mem _ hx)) hr1
    refine ⟨w', ?_, s'⟩
    simp only [storeCells, Sem.run_bind, add_norm, ho]
    rw [run_store P w _ v .plain (by rw [← oneC_eq]; exact hv1)]
    simp only at hc hf
    rw [hc]
    simp only [hf, Bool.false_eq_true, if_false, Result.andThen_ok]
    rw [show lo + k = o + i from ho.symm] at hw' ⊢
    exact hw'
end

variable {C : Cfg} {k : List It} {e : Env} {h : GH} {L : List Ent}

/-! ### operations on memory -/
def okPut (n : Nat) (e : Env) (d : Nat) : Bool := match Nat.blt d n with
  | true => freeOf e.cs d
  | false => false
theorem okPut_put {n d : Nat} {v : Value} (ho : okPut n e d = true) : e.put n none (some d) v = some ⟨(d, v) :: e.us, e.cs⟩ := by
  unfold okPut at ho
  split at ho
  · rename_i hlt; simp [Env.put, hlt, ho]
  · cases ho

/-- an operation that is carried out surely -/
theorem V.sure {all : Array Oper} {o : Oper} {l : List Oper} {ks : List (Nat × Bool)} (hg : gyes e all o.guard = some ks)
    (hr : ∀ a w, Ag C.n e a → St C.w0 h L w → keysOk a ks → o.wp C.P a w (fun a' w' => ∃ e' h' L', Ag C.n e' a' ∧ St C.w0 h' L' w' ∧ V C (.ops all l :: k) e' h' L') (fun _ _ _ => False)) :
    V C (.ops all (o :: l) :: k) e h L :=
  V.op fun a w g s => by
    obtain ⟨h1, h2⟩ := gyes_spec g hg
    exact ⟨fun _ => hr a w g s h2, fun hx => (by rw [h1] at hx; cases hx)⟩

/-- .. and hands back a value in a slot -/
theorem V.gives {all : Array Oper} {o : Oper} {l : List Oper} {ks : List (Nat × Bool)} {d : Nat} (hg : gyes e all o.guard = some ks) (hd : o.dst = some d) (hc : okPut C.n e d = true)
    (hr : ∀ a w, Ag C.n e a → St C.w0 h L w → keysOk a ks → ∃ v w' h' L', (execOp a.eval o).run C.P w = .ok (.value v) w' ∧ St C.w0 h' L' w' ∧ V C (.ops all l :: k) ⟨(d, v) :: e.us, e.cs⟩ h' L') :
    V C (.ops all (o :: l) :: k) e h L :=
  V.sure hg fun a w g s hk => by
    obtain ⟨v, w', h', L', h1, h2, h3⟩ := hr a w g s hk
    unfold Oper.wp
    rw [h1]
    exact ⟨_, h', L', g.put (by rw [hd]; exact okPut_put hc), h2, h3⟩

def ldV (ti : TI) (x : Ent) (o : Nat) : Option Value := match Nat.ble x.lo o with
  | true => partv ti x.cs (o - x.lo)
  | false => none

theorem run_ldV {P : Program} {w0 w : World} {t : TypeId} {ti : TI} (ok : TI.Ok P t ti) {x : Ent} {o b : Nat} {v : Value} (q : x.held w0 h w) (hb : x.b = b) (hv : ldV ti x o = some v) :
    (Instr.loadAt t (.pointer (some ⟨b, o, none⟩))).run P w = .ok v w := by
  subst hb
  unfold ldV at hv
  split at hv
  · rename_i hle
    have hle : x.lo ≤ o := Nat.le_of_ble_eq_true hle
    unfold partv at hv
    split at hv
    · rename_i ha
      split at hv
      · rename_i r hr
        injection hv with hv; subst hv
        obtain ⟨h1, h2, h3⟩ := subL_spec _ _ _ hr
        refine run_loadAt_agg ok ha (fun i u hu => ?_) h1
        have hi : i < r.length := by
          rcases Nat.lt_or_ge i r.length with h | h
          · exact h
          · rw [List.getElem?_eq_none h] at hu; cases hu
        rw [h3 i (by omega)] at hu
        have := q.cell _ _ hu
        rwa [show x.lo + (o - x.lo + i) = o + i by omega] at this
      · cases hv
    · rename_i ha
      rw [nthL_eq] at hv
      have := q.cell _ _ hv
      rw [show x.lo + (o - x.lo) = o by omega] at this
      exact run_loadAt_one ok ha this
  · cases hv

theorem V.load {all : Array Oper} {o : Oper} {l : List Oper} {m : Option (Nat × Bool)} {ks : List (Nat × Bool)} {t : TypeId} {p : Operand} {b off : Nat} {ti : TI} {x : Ent} {v : Value} {e' : Env}
    (hg : gmode e all o.guard = some (m, ks)) (ho : o.op = .load t p) (hp : e.ev ks p = some (.pointer (some ⟨b, off, none⟩))) (ht : C.S.get t = some ti) [i : EntAt L b x]
    (hv : ldV ti x off = some v) (hput : e.put C.n m o.dst v = some e') (next : V C (.ops all l :: k) e' h L) : V C (.ops all (o :: l) :: k) e h L :=
  V.value hg (fun a w g s hk => by
    have := run_ldV (TT.Ok.get C.ok ht) (s.own x i.mem) i.blk hv
    unfold execOp
    rw [ho]
    simp only [g.ev hk hp, Sem.run_bind, this, Result.andThen_ok, Sem.run_pure]) hput next

/-- a load from memory that never changes -/
theorem V.loadH {all : Array Oper} {o : Oper} {l : List Oper} {m : Option (Nat × Bool)} {ks : List (Nat × Bool)} {t : TypeId} {p : Operand} {b off : Nat} {ti : TI} {v : Value} {e' : Env}
    (hg : gmode e all o.guard = some (m, ks)) (ho : o.op = .load t p) (hp : e.ev ks p = some (.pointer (some ⟨b, off, none⟩))) (ht : C.S.get t = some ti) (ha : ti.agg = false)
    (hv : h b off = some v) (hput : e.put C.n m o.dst v = some e') (next : V C (.ops all l :: k) e' h L) : V C (.ops all (o :: l) :: k) e h L :=
  V.value hg (fun a w g s hk => by
    have := run_loadAt_one (P := C.P) (TT.Ok.get C.ok ht) ha (s.imm _ _ _ hv)
    unfold execOp
    rw [ho]
    simp only [g.ev hk hp, Sem.run_bind, this, Result.andThen_ok, Sem.run_pure]) hput next

def atH (h : GH) (b off : Nat) (vs : List Value) : Prop := ∀ i v, vs[i]? = some v → h b (off + i) = some v
theorem atH.mono {h h' : GH} {b off : Nat} {vs : List Value} (hl : h.le h') (x : atH h b off vs) : atH h' b off vs := fun i v hv => hl _ _ _ (x i v hv)

theorem V.loadHA {all : Array Oper} {o : Oper} {l : List Oper} {m : Option (Nat × Bool)} {ks : List (Nat × Bool)} {t : TypeId} {p : Operand} {b off : Nat} {ti : TI} {vs : List Value} {e' : Env}
    (hg : gmode e all o.guard = some (m, ks)) (ho : o.op = .load t p) (hp : e.ev ks p = some (.pointer (some ⟨b, off, none⟩))) (ht : C.S.get t = some ti) (ha : ti.agg = true)
    (hv : atH h b off vs) (hl : vs.length = ti.size) (hput : e.put C.n m o.dst (.agg ⟨vs⟩) = some e') (next : V C (.ops all l :: k) e' h L) : V C (.ops all (o :: l) :: k) e h L :=
  V.value hg (fun a w g s hk => by
    have := run_loadAt_agg (P := C.P) (TT.Ok.get C.ok ht) ha (fun i u hu => s.imm _ _ _ (hv i u hu)) hl
    unfold execOp
    rw [ho]
    simp only [g.ev hk hp, Sem.run_bind, this, Result.andThen_ok, Sem.run_pure]) hput next

def stV (ti : TI) (x : Ent) (o : Nat) (v : Value) : Option Ent := match Nat.beq (cellsL v).length ti.size with
  | true => match x with
    | ⟨b, lo, xs, ob⟩ => match Nat.ble lo o with
      | true => match allOne (cellsL v) with
        | true => match updL xs (o - lo) (cellsL v) with
          | some cs => some ⟨b, lo, cs, ob⟩
          | none => none
        | false => none
      | false => none
  | false => none

theorem run_stV {P : Program} {w0 w : World} {t : TypeId} {ti : TI} (ok : TI.Ok P t ti) {x x' : Ent} {L1 : List Ent} {o b : Nat} {v : Value} (s : St w0 h (L1 ++ x :: L) w) (hb : x.b = b) (hv : stV ti x o v = some x') :
    ∃ w', (Instr.storeAt t (.pointer (some ⟨b, o, none⟩)) v).run P w = .ok () w' ∧ St w0 h (L1 ++ x' :: L) w' := by
  subst hb
  obtain ⟨xb, xlo, xs, xob⟩ := x
  unfold stV at hv
  simp only at hv
  split at hv
  · rename_i hsz
    have hsz := Nat.eq_of_beq_eq_true hsz
    split at hv
    · rename_i hle
      have hle : xlo ≤ o := Nat.le_of_ble_eq_true hle
      split at hv
      · rename_i hone
        split at hv
        · rename_i cs hcs
          injection hv with hv; subst hv
          obtain ⟨u1, _, _⟩ := updL_spec _ _ _ hcs
          obtain ⟨w', h1, h2⟩ := run_storeCells (P := P) (cellsL v) xb o 0 w (L1 := L1) (lo := xlo) (k := o - xlo) (cs := xs) (ob := xob) s (by omega) u1 (allOne_mem hone) hcs
          refine ⟨w', ?_, h2⟩
          have hsz' : v.cells.size = ti.size := by rw [← hsz, cellsL_eq]; simp
          simp only [Instr.storeAt, Instr.sureAddr, Sem.run_bind, Sem.run_pure, Result.andThen_ok, storeVar, run_sizeOf ok, hsz', ne_eq, not_true, if_false]
          rw [← cellsL_eq]; exact h1
        · cases hv
      · cases hv
    · cases hv
  · cases hv

theorem V.store {all : Array Oper} {o : Oper} {l : List Oper} {ks : List (Nat × Bool)} {t : TypeId} {p y : Operand} {b off : Nat} {ti : TI} {x x' : Ent} {v : Value} {L' : List Ent}
    (hg : gyes e all o.guard = some ks) (ho : o.op = .store t p y) (hp : e.ev ks p = some (.pointer (some ⟨b, off, none⟩))) (hy : e.ev ks y = some v) (ht : C.S.get t = some ti) [i : EntAt L b x]
    (hv : stV ti x off v = some x') [j : EntUp L b x x' L'] (hd : o.dst = none) (next : V C (.ops all l :: k) e h L') : V C (.ops all (o :: l) :: k) e h L :=
  V.sure hg fun a w g s hk => by
    obtain ⟨L1, L2, h1, h2⟩ := j.split
    subst h1; subst h2
    obtain ⟨w', h3, h4⟩ := run_stV (P := C.P) (TT.Ok.get C.ok ht) s i.blk hv
    unfold Oper.wp execOp
    rw [ho]
    simp only [g.ev hk hp, g.ev hk hy, Sem.run_bind, h3, Result.andThen_ok, Sem.run_pure]
    exact ⟨e, h, _, by rw [hd]; exact g, h4, next⟩

theorem V.alloc {all : Array Oper} {o : Oper} {l : List Oper} {ks : List (Nat × Bool)} {t : TypeId} {ti : TI} {d : Nat}
    (hg : gyes e all o.guard = some ks) (ho : o.op = .alloc t) (ht : C.S.get t = some ti) (h1 : allOne ti.zero = true) (hd : o.dst = some d) (hc : okPut C.n e d = true)
    (next : ∀ b, V C (.ops all l :: k) ⟨(d, .pointer (some ⟨b, 0, none⟩)) :: e.us, e.cs⟩ h (⟨b, 0, ti.zero, none⟩ :: L)) : V C (.ops all (o :: l) :: k) e h L :=
  V.gives hg hd hc fun a w g s hk => by
    obtain ⟨z, hz, hzl⟩ := run_zeroCells (w := w) (TT.Ok.get C.ok ht)
    have s' := s.alloc z.cells t (by rw [hzl]; exact h1)
    rw [hzl] at s'
    refine ⟨_, _, h, _, ?_, s', next _⟩
    unfold execOp
    rw [ho]
    simp [Instr.alloc, hz, newVar, newRow]

def boxL : Value → Option (List Value)
  | .agg ⟨l⟩ => match allOne l with
    | true => some l
    | false => none
  | v => match oneC v with
    | true => some [v]
    | false => none
theorem boxL_spec {v : Value} {cs : List Value} (h : boxL v = some cs) : cellsL v = cs ∧ allOne (cellsL v) = true := by
  unfold boxL at h
  split at h
  · split at h
    · rename_i ho
      injection h with h; subst h
      exact ⟨rfl, ho⟩
    · cases h
  · rename_i hna
    split at h
    · rename_i ho
      injection h with h; subst h
      have : cellsL v = [v] := by cases v <;> first | rfl | (rename_i c; exact (hna c.toList rfl).elim)
      rw [this]
      exact ⟨rfl, by simp only [allOne, ho]⟩
    · cases h
theorem V.box {all : Array Oper} {o : Oper} {l : List Oper} {ks : List (Nat × Bool)} {t : TypeId} {y : Operand} {v : Value} {d : Nat} {cs : List Value}
    (hg : gyes e all o.guard = some ks) (ho : o.op = .box t y) (hy : e.ev ks y = some v) (hb : boxL v = some cs) (hd : o.dst = some d) (hc : okPut C.n e d = true)
    (next : ∀ b, V C (.ops all l :: k) ⟨(d, .pointer (some ⟨b, 0, none⟩)) :: e.us, e.cs⟩ h (⟨b, 0, cs, none⟩ :: L)) : V C (.ops all (o :: l) :: k) e h L :=
  V.gives hg hd hc fun a w g s hk => by
    obtain ⟨hcs, h1⟩ := boxL_spec hb
    subst hcs
    have s' := s.alloc v.cells t (by rw [← cellsL_eq]; exact h1)
    rw [← cellsL_eq] at s'
    refine ⟨_, _, h, _, ?_, s', next _⟩
    unfold execOp
    rw [ho]
    simp [Instr.box, newVar, newRow, g.ev hk hy]

theorem V.condT {c : Operand} {x y : Code} (hc : e.ev [] c = some (.bool true)) (next : V C (.code x :: k) e h L) : V C (.code (.cond c x y) :: k) e h L :=
  V.cond hc (fun _ => next) (fun h => by cases h)
theorem V.condF {c : Operand} {x y : Code} (hc : e.ev [] c = some (.bool false)) (next : V C (.code y :: k) e h L) : V C (.code (.cond c x y) :: k) e h L :=
  V.cond hc (fun h => by cases h) (fun _ => next)

/-! ### calls -/
/-- what a function does -/
def Does (P : Program) (w0 : World) (f : FuncId) (args : List Value) (h : GH) (L : List Ent) (R : Value → GH → List Ent → Prop) : Prop :=
  (∃ g c, P.funcs[f]? = some g ∧ g.body = some c ∧ (g.name == "runtime.NumGoroutine") = false) ∧
  ∀ w, St w0 h L w → Calls P f ⟨args⟩ w fun x w' => ∃ v h' L', x = .returned v ∧ R v h' L' ∧ St w0 h' L' w'

theorem Does.mono {P : Program} {w0 : World} {f : FuncId} {args : List Value} {R R' : Value → GH → List Ent → Prop} (hf : Does P w0 f args h L R) (hr : ∀ v h' L', R v h' L' → R' v h' L') : Does P w0 f args h L R' :=
  ⟨hf.1, fun w s => (hf.2 w s).mono fun _ _ ⟨v, h', L', e1, e2, e3⟩ => ⟨v, h', L', e1, hr _ _ _ e2, e3⟩⟩

/-- a function that hands back this value and changes nothing that is known -/
def Is (x : Value) (h : GH) (L : List Ent) : Value → GH → List Ent → Prop := fun v h' L' => v = x ∧ h' = h ∧ L' = L
theorem Is.mk (x : Value) (h : GH) (L : List Ent) : Is x h L x h L := ⟨rfl, rfl, rfl⟩

def argUs : Nat → List Value → Us
  | _, [] => []
  | i, v :: r => (i, v) :: argUs (i + 1) r
theorem look_argUs : ∀ (l : List Value) (i t : Nat) {v : Value}, look (argUs i l) t = some v → i ≤ t ∧ l[t - i]? = some v
  | [], _, _, _, h => by cases h
  | x :: r, i, t, v, h => by
    simp only [argUs, look] at h
    split at h
    · rename_i hk
      have hk := Nat.eq_of_beq_eq_true hk; subst hk
      injection h with h; subst h
      simp
    · rename_i hk
      have hk := beq_false_ne hk
      obtain ⟨h1, h2⟩ := look_argUs r (i + 1) t h
      refine ⟨by omega, ?_⟩
      rw [show t - i = (t - (i + 1)) + 1 by omega]; simpa using h2

theorem Does.of_V {args : List Value} {c : Code} (C : Cfg) (hb : C.fn.body = some c) (hnm : (C.fn.name == "runtime.NumGoroutine") = false) (hn : C.fn.ntmps = C.n) (hl : Nat.ble args.length C.n = true)
    (hv : V C [.code c] ⟨argUs 0 args, []⟩ h L) : Does C.P C.w0 C.f args h L C.R := by
  refine ⟨⟨_, c, C.hfn, hb, hnm⟩, fun w s cs => ?_⟩
  have hle : args.length ≤ C.n := Nat.le_of_ble_eq_true hl
  let b : Frame := { (default : Frame) with fn := C.f, kind := .normal }
  let a : Act := { tmps := (⟨args⟩ : Array Value) ++ Array.replicate (C.fn.ntmps - (⟨args⟩ : Array Value).size) undef, defers := [] }
  have ha : Ag C.n ⟨argUs 0 args, []⟩ a := by
    refine ⟨by simp [a, hn]; omega, rfl, fun t v hv => ?_, fun _ _ _ _ h => by cases h⟩
    obtain ⟨_, h2⟩ := look_argUs args 0 t hv
    simp only [Nat.sub_zero] at h2
    have ht : t < args.length := by
      rcases Nat.lt_or_ge t args.length with h | h
      · exact h
      · rw [List.getElem?_eq_none h] at h2; cases h2
    simp only [a]
    rw [Array.getElem?_append_left (by simpa using ht)]
    simpa using h2
  have henter : Frame.enter C.P C.f ⟨args⟩ .normal = b.at a [.code c] := by
    simp [Frame.enter, Frame.at, C.hfn, hb, b, a]
  obtain ⟨v, w', fr, h', L', r, s', st, e1, e2⟩ := hv (itsOk_code (fun _ hx => by cases hx)) a w b cs ha s rfl rfl
  refine ⟨.returned v, w', fr, ⟨v, h', L', rfl, r, s'⟩, ?_, e1, e2⟩
  show Steps C.P _ _
  rw [henter]
  exact st

theorem V.call {all : Array Oper} {o : Oper} {l : List Oper} {ks : List (Nat × Bool)} {x : Operand} {args : Array Operand} {ts : Array TypeId} {f : FuncId} {fst cap : Array Value} {vs : List Value} {R' : Value → GH → List Ent → Prop} {d : Nat}
    (hg : gyes e all o.guard = some ks) (ho : o.op = .call ⟨.value x, args, ts⟩) (hx : e.ev ks x = some (.func (.func f) fst cap)) (ha : evs (e.ev ks) args.toList = some vs)
    (hd : o.dst = some d) (hc : okPut C.n e d = true) (hf : Does C.P C.w0 f (fst.toList ++ (vs ++ cap.toList)) h L R')
    (next : ∀ v h' L', R' v h' L' → V C (.ops all l :: k) ⟨(d, v) :: e.us, e.cs⟩ h' L') : V C (.ops all (o :: l) :: k) e h L :=
  V.sure hg fun a w g s hk => by
    obtain ⟨⟨gg, c, h1, h2, h3⟩, hcalls⟩ := hf
    have e1 : args.map a.eval = ⟨vs⟩ := by apply Array.ext'; rw [Array.toList_map]; exact evs_spec (fun x v hx => g.ev hk hx) ha
    have e2 : fst ++ (⟨vs⟩ : Array Value) ++ cap = ⟨fst.toList ++ (vs ++ cap.toList)⟩ := by apply Array.ext'; simp
    unfold Oper.wp execOp
    rw [ho]
    have hcf : (callFunc f (fst ++ (⟨vs⟩ : Array Value) ++ cap)).run C.P w = .ok (.enter f ⟨fst.toList ++ (vs ++ cap.toList)⟩) w := by
      simp only [callFunc, Sem.run_bind, run_program, Result.andThen_ok, h1, h3, Bool.false_eq_true, if_false, h2, Option.isNone_some, Sem.run_pure, e2]
    simp only [resolve, e1, g.ev hk hx, Deferred.ofValue, Sem.run_bind, Sem.run_pure, Result.andThen_ok, invoke]
    rw [hcf]
    refine (hcalls w s).mono fun x w' ⟨v, h', L', e1, e2, e3⟩ => ?_
    subst e1
    exact ⟨_, h', L', g.put (by rw [hd]; exact okPut_put hc), e3, next v h' L' e2⟩

/-- .. of a function whose value is known -/
theorem V.callIs {all : Array Oper} {o : Oper} {l : List Oper} {ks : List (Nat × Bool)} {x : Operand} {args : Array Operand} {ts : Array TypeId} {f : FuncId} {fst cap : Array Value} {vs : List Value} {v : Value} {d : Nat}
    (hg : gyes e all o.guard = some ks) (ho : o.op = .call ⟨.value x, args, ts⟩) (hx : e.ev ks x = some (.func (.func f) fst cap)) (ha : evs (e.ev ks) args.toList = some vs)
    (hd : o.dst = some d) (hc : okPut C.n e d = true) (hf : Does C.P C.w0 f (fst.toList ++ (vs ++ cap.toList)) h L (Is v h L))
    (next : V C (.ops all l :: k) ⟨(d, v) :: e.us, e.cs⟩ h L) : V C (.ops all (o :: l) :: k) e h L :=
  V.call hg ho hx ha hd hc hf fun _ _ _ ⟨e1, e2, e3⟩ => (by subst e1; subst e2; subst e3; exact next)

theorem TI.mk_ok {P : Program} {t : TypeId} {d : TypeDesc} {sz bt : Nat} {zs : List Value} {ag : Bool} (hu : P.underlying t = some d)
    (hi : (P.info? t).map (fun i => (i.zero.map fun z => z.cells.toList, i.size, i.bytes)) = some (some zs, sz, bt)) (ha : isAggD d = ag) (hl : Nat.beq zs.length sz = true) : TI.Ok P t ⟨d, sz, bt, zs, ag⟩ := by
  refine ⟨hu, ?_, ha, Nat.eq_of_beq_eq_true hl⟩
  cases hx : P.info? t with
  | none => rw [hx] at hi; cases hi
  | some x =>
    rw [hx] at hi
    simp only [Option.map_some, Option.some.injEq, Prod.mk.injEq] at hi
    obtain ⟨h1, h2, h3⟩ := hi
    cases hz : x.zero with
    | none => rw [hz] at h1; cases h1
    | some z =>
      rw [hz] at h1
      simp only [Option.map_some, Option.some.injEq] at h1
      exact ⟨x, z, rfl, h2, h3, hz, h1⟩

/-! ### what is handed back -/
def atEnd : List It → Bool
  | [] => true
  | .code .ret :: _ => true
  | _ => false
theorem atEnd_or (hk : atEnd k = true) : k = .code .ret :: k.tail ∨ k = [] := by
  unfold atEnd at hk
  split at hk
  · exact .inr rfl
  · exact .inl rfl
  · cases hk

theorem V.ret0 (hk : atEnd k = true) (hr : C.fn.results = #[]) (hR : C.R (.tuple #[]) h L) : V C k e h L :=
  V.ret (atEnd_or hk) (fun a w g s => by simp [results, hr]) hR
theorem V.ret1 {t : Nat} {v : Value} (hk : atEnd k = true) (hr : C.fn.results = #[.tmp t]) (hl : look e.us t = some v) (hR : C.R v h L) : V C k e h L :=
  V.ret (atEnd_or hk) (fun a w g s => by rw [results_tmp hr, Act.getD_of (g.us _ _ hl)]) hR
theorem V.ret2 {t u : Nat} {v x : Value} (hk : atEnd k = true) (hr : C.fn.results = #[.tmp t, .tmp u]) (hl : look e.us t = some v) (hl' : look e.us u = some x) (hR : C.R (.tuple #[v, x]) h L) : V C k e h L :=
  V.ret (atEnd_or hk) (fun a w g s => by rw [results_tmp2 hr, Act.getD_of (g.us _ _ hl), Act.getD_of (g.us _ _ hl')]) hR
theorem V.ret3 {t u r : Nat} {v x y : Value} (hk : atEnd k = true) (hr : C.fn.results = #[.tmp t, .tmp u, .tmp r]) (hl : look e.us t = some v) (hl' : look e.us u = some x) (hl'' : look e.us r = some y)
    (hR : C.R (.tuple #[v, x, y]) h L) : V C k e h L :=
  V.ret (atEnd_or hk) (fun a w g s => by simp [results, hr, g.us _ _ hl, g.us _ _ hl', g.us _ _ hl'']) hR
theorem V.retC {p : Nat} {t : TypeId} {b off : Nat} {ti : TI} {x : Ent} {v : Value} (hk : atEnd k = true) (hr : C.fn.results = #[.cell p t]) (hl : look e.us p = some (.pointer (some ⟨b, off, none⟩))) (ht : C.S.get t = some ti)
    [i : EntAt L b x] (hv : ldV ti x off = some v) (hR : C.R v h L) : V C k e h L :=
  V.ret (atEnd_or hk) (fun a w g s => by
    have h1 := run_ldV (P := C.P) (TT.Ok.get C.ok ht) (s.own x i.mem) i.blk hv
    have h2 := g.us _ _ hl
    have h1' : (loadVar t ⟨b, off, none⟩).run C.P w = .ok v w := by simpa [Instr.loadAt, Instr.sureAddr] using h1
    simp [results, hr, h2, h1', asAddr]) hR
theorem V.retCT {p : Nat} {t : TypeId} {b off u : Nat} {ti : TI} {x : Ent} {v y : Value} (hk : atEnd k = true) (hr : C.fn.results = #[.cell p t, .tmp u]) (hl : look e.us p = some (.pointer (some ⟨b, off, none⟩))) (ht : C.S.get t = some ti)
    [i : EntAt L b x] (hv : ldV ti x off = some v) (hl' : look e.us u = some y) (hR : C.R (.tuple #[v, y]) h L) : V C k e h L :=
  V.ret (atEnd_or hk) (fun a w g s => by
    have h1 := run_ldV (P := C.P) (TT.Ok.get C.ok ht) (s.own x i.mem) i.blk hv
    have h2 := g.us _ _ hl
    have h3 := g.us _ _ hl'
    have h1' : (loadVar t ⟨b, off, none⟩).run C.P w = .ok v w := by simpa [Instr.loadAt, Instr.sureAddr] using h1
    simp [results, hr, h2, h1', h3, asAddr]) hR

#print axioms V.call
#print axioms Does.of_V
#print axioms V.store
end Go.Tp
