/-
  (TpJ: steps of a statement whose order is open; slices.)
-/
import Derived.Test.YtbbainjecjdkmaaTpI
namespace Go.Tp
open Go Go.RowKit
set_option linter.unusedVariables false

/-! ### steps of an open statement -/
section we
variable {G : Rg} {π : List Nat} {e : Env} {h : GH} {E : Slots}

theorem WE.value {i : Nat} {o : Oper} {m : Option (Nat × Bool)} {ks : List (Nat × Bool)} {v : Value} {e' : Env} (ho : nthL G.all.toList i = some o) (hk : kd o = .qt) (hg : gmode e G.all o.guard = some (m, ks))
    (hr : ∀ a w E, Ag G.C.n e a → St G.C.w0 h (E ++ G.L0) w → keysOk a ks → (execOp a.eval o).run G.C.P w = .ok (.value v) w) (hp : e.put G.C.n m o.dst v = some e') (next : WE G π e' h E) : WE G (i :: π) e h E := by
  intro a g
  refine ⟨o, by rw [nthL_eq, Array.getElem?_toList] at ho; exact ho, ?_⟩
  unfold Rg.Node
  rcases gmode_spec g hg with ⟨rfl, hon, hks⟩ | ⟨t, b, rfl, hiff, hks⟩
  · rw [hon, hk]
    exact ⟨v, fun E w s => hr a w E g s hks, next _ (g.put hp)⟩
  · cases hon : onNow G.all o a with
    | true =>
      rw [hk]
      exact ⟨v, fun E w s => hr a w E g s (hks hon), next _ (g.putc hp (fun _ => rfl) (fun hx => (hx (hiff.1 hon)).elim))⟩
    | false =>
      refine next _ (g.putc hp (fun hx => ?_) (fun _ => rfl))
      have := hiff.2 hx
      rw [hon] at this; cases this

def kdQt (o : Oper) : Bool := match kd o with
  | .qt => true
  | _ => false
def wstep (S : TT) (n : Nat) (all : Array Oper) (π : List Nat) (e : Env) : Option (List Nat × Env) :=
  match π with
  | [] => none
  | i :: π => match nthL all.toList i with
    | some o => match kdQt o with
      | true => match gmode e all o.guard with
        | some (m, ks) => match pve S e ks o.op with
          | some v => match e.put n m o.dst v with
            | some e' => some (π, e')
            | none => none
          | none => none
        | none => none
      | false => none
    | none => none

theorem WE.step {π' : List Nat} {e' : Env} (hs : wstep G.C.S G.C.n G.all π e = some (π', e')) (next : WE G π' e' h E) : WE G π e h E := by
  unfold wstep at hs
  split at hs
  · cases hs
  · rename_i i π
    split at hs
    · rename_i o ho
      split at hs
      · rename_i hk
        have hk : kd o = .qt := by unfold kdQt at hk; split at hk <;> first | assumption | cases hk
        split at hs
        · rename_i m ks hg
          split at hs
          · rename_i v hpv
            split at hs
            · rename_i e'' hput
              injection hs with hs; injection hs with h1 h2; subst h1; subst h2
              exact WE.value ho hk hg (fun a w E g s hks => run_pve G.C.ok g hks hpv) hput next
            · cases hs
          · cases hs
        · cases hs
      · cases hs
    · cases hs

theorem kd_load {o : Oper} {t : TypeId} {p : Operand} (ho : o.op = .load t p) : kd o = .qt := by unfold kd; rw [ho]
theorem kd_index {o : Oper} {t : TypeId} {p q : Operand} (ho : o.op = .indexAddr t p q) : kd o = .qt := by unfold kd; rw [ho]

theorem WE.load {i : Nat} {o : Oper} {m : Option (Nat × Bool)} {ks : List (Nat × Bool)} {t : TypeId} {p : Operand} {b off : Nat} {ti : TI} {x : Ent} {v : Value} {e' : Env}
    (hi : nthL G.all.toList i = some o) (hg : gmode e G.all o.guard = some (m, ks)) (ho : o.op = .load t p) (hp : e.ev ks p = some (.pointer (some ⟨b, off, none⟩))) (ht : G.C.S.get t = some ti) [z : EntAt G.L0 b x]
    (hv : ldV ti x off = some v) (hput : e.put G.C.n m o.dst v = some e') (next : WE G π e' h E) : WE G (i :: π) e h E :=
  WE.value hi (kd_load ho) hg (fun a w E g s hk => by
    have := run_ldV (TT.Ok.get G.C.ok ht) (s.own x (List.mem_append_right _ z.mem)) z.blk hv
    unfold execOp
    rw [ho]
    simp only [g.ev hk hp, Sem.run_bind, this, Result.andThen_ok, Sem.run_pure]) hput next
theorem WE.loadH {i : Nat} {o : Oper} {m : Option (Nat × Bool)} {ks : List (Nat × Bool)} {t : TypeId} {p : Operand} {b off : Nat} {ti : TI} {v : Value} {e' : Env}
    (hi : nthL G.all.toList i = some o) (hg : gmode e G.all o.guard = some (m, ks)) (ho : o.op = .load t p) (hp : e.ev ks p = some (.pointer (some ⟨b, off, none⟩))) (ht : G.C.S.get t = some ti) (ha : ti.agg = false)
    (hv : h b off = some v) (hput : e.put G.C.n m o.dst v = some e') (next : WE G π e' h E) : WE G (i :: π) e h E :=
  WE.value hi (kd_load ho) hg (fun a w E g s hk => by
    have := run_loadAt_one (P := G.C.P) (TT.Ok.get G.C.ok ht) ha (s.imm _ _ _ hv)
    unfold execOp
    rw [ho]
    simp only [g.ev hk hp, Sem.run_bind, this, Result.andThen_ok, Sem.run_pure]) hput next
theorem WE.loadHA {i : Nat} {o : Oper} {m : Option (Nat × Bool)} {ks : List (Nat × Bool)} {t : TypeId} {p : Operand} {b off : Nat} {ti : TI} {vs : List Value} {e' : Env}
    (hi : nthL G.all.toList i = some o) (hg : gmode e G.all o.guard = some (m, ks)) (ho : o.op = .load t p) (hp : e.ev ks p = some (.pointer (some ⟨b, off, none⟩))) (ht : G.C.S.get t = some ti) (ha : ti.agg = true)
    (hv : atH h b off vs) (hl : vs.length = ti.size) (hput : e.put G.C.n m o.dst (.agg ⟨vs⟩) = some e') (next : WE G π e' h E) : WE G (i :: π) e h E :=
  WE.value hi (kd_load ho) hg (fun a w E g s hk => by
    have := run_loadAt_agg (P := G.C.P) (TT.Ok.get G.C.ok ht) ha (fun i u hu => s.imm _ _ _ (hv i u hu)) hl
    unfold execOp
    rw [ho]
    simp only [g.ev hk hp, Sem.run_bind, this, Result.andThen_ok, Sem.run_pure]) hput next

theorem WE.skip {i : Nat} {o : Oper} {x : Bool} {e' : Env} (hi : nthL G.all.toList i = some o) (hg : gno e G.all o.guard = some x) (hp : e.put G.C.n none o.dst undef = some e') (next : WE G π e' h E) : WE G (i :: π) e h E := by
  intro a g
  refine ⟨o, by rw [nthL_eq, Array.getElem?_toList] at hi; exact hi, ?_⟩
  unfold Rg.Node
  have : onNow G.all o a = false := gno_spec g hg
  rw [this]
  exact next _ (g.put hp)

theorem WE.split (t : Nat) {g : Bool} (hl : look e.us t = some (.bool g)) (ht : g = true → WE G π ⟨(t, .bool true) :: e.us, e.cs⟩ h E) (hf : g = false → WE G π ⟨(t, .bool false) :: e.us, e.cs⟩ h E) : WE G π e h E := by
  intro a ag
  have hb := ag.us _ _ hl
  cases g
  · refine hf rfl a ⟨ag.size, ag.defers, fun u v hu => ?_, ag.cs⟩
    simp only [look] at hu
    split at hu
    · rename_i hk; have hk := Nat.eq_of_beq_eq_true hk; subst hk; injection hu with hu; subst hu; exact hb
    · exact ag.us _ _ hu
  · refine ht rfl a ⟨ag.size, ag.defers, fun u v hu => ?_, ag.cs⟩
    simp only [look] at hu
    split at hu
    · rename_i hk; have hk := Nat.eq_of_beq_eq_true hk; subst hk; injection hu with hu; subst hu; exact hb
    · exact ag.us _ _ hu

theorem WE.alloc {i : Nat} {o : Oper} {ks : List (Nat × Bool)} {t : TypeId} {ti : TI} {d : Nat} (hi : nthL G.all.toList i = some o)
    (hg : gyes e G.all o.guard = some ks) (ho : o.op = .alloc t) (ht : G.C.S.get t = some ti) (h1 : allOne ti.zero = true) (hd : o.dst = some d) (hc : okPut G.C.n e d = true) (hE : E i = none)
    (next : ∀ b, WE G π ⟨(d, .pointer (some ⟨b, 0, none⟩)) :: e.us, e.cs⟩ h (E.set i (some ⟨b, 0, ti.zero, none⟩))) : WE G (i :: π) e h E := by
  intro a g
  refine ⟨o, by rw [nthL_eq, Array.getElem?_toList] at hi; exact hi, ?_⟩
  unfold Rg.Node
  have hk : kd o = .mk := by unfold kd; rw [ho]
  rw [(gyes_spec g hg).1, hk]
  refine ⟨ti.zero, none, by unfold mkOf; rw [ho]; simp only [ht], h1, hE, fun b => next b _ (g.put (by rw [hd]; exact okPut_put hc))⟩

theorem layL_mono {place : Nat → Option (Nat × Nat)} {ρ ρ' : Operand → Option Value} (hρ : ∀ x v, ρ x = some v → ρ' x = some v) : ∀ (parts : List (Nat × Operand)) (cs : List Value) {r : List Value}, layL place ρ parts cs = some r → layL place ρ' parts cs = some r
  | [], _, _, h => h
  | (i, x) :: p, cs, r, h => by
    simp only [layL] at h ⊢
    split at h
    · rename_i v hv
      rw [hρ _ _ hv]
      simp only
      split at h
      · rename_i off size hpl
        (try rw [hpl])
        (try simp only)
        split at h
        · rename_i hsz
          (try rw [hsz])
          (try simp only)
          split at h
          · rename_i cs' hu
            (try rw [hu])
            exact layL_mono hρ p cs' h
          · cases h
        · cases h
      · cases h
    · cases h
theorem litL_mono {S : TT} {ρ ρ' : Operand → Option Value} (hρ : ∀ x v, ρ x = some v → ρ' x = some v) {t : TypeId} {len : Nat} {parts : List (Nat × Operand)} {r : List Value} (h : litL S ρ t len parts = some r) : litL S ρ' t len parts = some r := by
  unfold litL at *
  split at h
  · split at h
    · split at h
      · split at h
        · cases h
        · split at h
          · exact layL_mono hρ _ _ h
          · cases h
      · cases h
    · cases h
  · cases h

theorem WE.lit {i : Nat} {o : Oper} {ks : List (Nat × Bool)} {t : TypeId} {len : Nat} {parts : Array (Nat × Operand)} {cs : List Value} {d : Nat} (hi : nthL G.all.toList i = some o)
    (hg : gyes e G.all o.guard = some ks) (ho : o.op = .buildSlice t len parts) (hl : litL G.C.S (e.ev ks) t len parts.toList = some cs) (h1 : allOne cs = true) (hd : o.dst = some d) (hc : okPut G.C.n e d = true) (hE : E i = none)
    (next : ∀ b, WE G π ⟨(d, .slice (some ⟨b, 0, none⟩) len len) :: e.us, e.cs⟩ h (E.set i (some ⟨b, 0, cs, none⟩))) : WE G (i :: π) e h E := by
  intro a g
  refine ⟨o, by rw [nthL_eq, Array.getElem?_toList] at hi; exact hi, ?_⟩
  unfold Rg.Node
  have hk : kd o = .mk := by unfold kd; rw [ho]
  obtain ⟨g1, g2⟩ := gyes_spec g hg
  rw [g1, hk]
  have hl' := litL_mono (ρ' := fun x => some (a.eval x)) (fun x v hx => by rw [g.ev g2 hx]) hl
  refine ⟨cs, some len, by unfold mkOf; rw [ho]; simp only [hl'], h1, hE, fun b => next b _ (g.put (by rw [hd]; exact okPut_put hc))⟩

theorem WE.callL {i : Nat} {o : Oper} {ks : List (Nat × Bool)} {x : Operand} {args : Array Operand} {ts : Array TypeId} {f : FuncId} {fst cap : Array Value} {vs : List Value} {d : Nat} (hi : nthL G.all.toList i = some o)
    (hg : gyes e G.all o.guard = some ks) (ho : o.op = .call ⟨.value x, args, ts⟩) (hx : e.ev ks x = some (.func (.func f) fst cap)) (ha : evs (e.ev ks) args.toList = some vs)
    (hd : o.dst = some d) (hc : okPut G.C.n e d = true)
    (hf : PubOk E (G.pubs i) h → ∀ L, Does G.C.P G.C.w0 f (fst.toList ++ (vs ++ cap.toList)) (pubH E (G.pubs i) h) L (fun v h' L' => L' = L ∧ (pubH E (G.pubs i) h).le h' ∧ G.Y i (fst.toList ++ (vs ++ cap.toList)) v h'))
    (next : ∀ v h', (pubH E (G.pubs i) h).le h' → h.le h' → G.Y i (fst.toList ++ (vs ++ cap.toList)) v h' → WE G π ⟨(d, v) :: e.us, e.cs⟩ h' (pubE (G.pubs i) E)) : WE G (i :: π) e h E := by
  intro a g
  refine ⟨o, by rw [nthL_eq, Array.getElem?_toList] at hi; exact hi, ?_⟩
  unfold Rg.Node
  have hk : kd o = .cl := by unfold kd; rw [ho]
  obtain ⟨g1, g2⟩ := gyes_spec g hg
  rw [g1, hk]
  have e1 : args.toList.map a.eval = vs := evs_spec (fun x v hx => g.ev g2 hx) ha
  refine ⟨f, fst.toList ++ (vs ++ cap.toList), by unfold entOf; rw [ho]; simp only [g.ev g2 hx, e1], hf, fun v h' y1 y2 _ y4 => next v h' y1 y2 y4 _ (g.put (by rw [hd]; exact okPut_put hc))⟩

theorem WE.call {i : Nat} {o : Oper} {ks : List (Nat × Bool)} {x : Operand} {args : Array Operand} {ts : Array TypeId} {f : FuncId} {fst cap : Array Value} {vs : List Value} {d : Nat} (hi : nthL G.all.toList i = some o)
    (hg : gyes e G.all o.guard = some ks) (ho : o.op = .call ⟨.value x, args, ts⟩) (hx : e.ev ks x = some (.func (.func f) fst cap)) (ha : evs (e.ev ks) args.toList = some vs)
    (hd : o.dst = some d) (hc : okPut G.C.n e d = true)
    (hf : ∀ L, Does G.C.P G.C.w0 f (fst.toList ++ (vs ++ cap.toList)) (pubH E (G.pubs i) h) L (fun v h' L' => L' = L ∧ (pubH E (G.pubs i) h).le h' ∧ G.Y i (fst.toList ++ (vs ++ cap.toList)) v h'))
    (next : ∀ v h', (pubH E (G.pubs i) h).le h' → h.le h' → G.Y i (fst.toList ++ (vs ++ cap.toList)) v h' → WE G π ⟨(d, v) :: e.us, e.cs⟩ h' (pubE (G.pubs i) E)) : WE G (i :: π) e h E :=
  WE.callL hi hg ho hx ha hd hc (fun _ => hf) next

/-- what calls hand back, told beforehand: 'this value, and the ghost heap as it was' -/
def eqY (v : Value) (h : GH) : List Value → Value → GH → Prop := fun _ v' h' => v' = v ∧ h' = h
def yl : List (Nat × (List Value → Value → GH → Prop)) → Nat → List Value → Value → GH → Prop
  | [], _ => fun _ _ _ => False
  | (k, y) :: r, i => match Nat.beq k i with
    | true => y
    | false => yl r i
def noPubs : Nat → List Nat := fun _ => []

theorem WE.callIs {i : Nat} {o : Oper} {ks : List (Nat × Bool)} {x : Operand} {args : Array Operand} {ts : Array TypeId} {f : FuncId} {fst cap : Array Value} {vs : List Value} {d : Nat} {v : Value} (hi : nthL G.all.toList i = some o)
    (hg : gyes e G.all o.guard = some ks) (ho : o.op = .call ⟨.value x, args, ts⟩) (hx : e.ev ks x = some (.func (.func f) fst cap)) (ha : evs (e.ev ks) args.toList = some vs)
    (hd : o.dst = some d) (hc : okPut G.C.n e d = true) (hp : G.pubs i = []) (hy : G.Y i = eqY v h)
    (hf : ∀ L, Does G.C.P G.C.w0 f (fst.toList ++ (vs ++ cap.toList)) h L (Is v h L))
    (next : WE G π ⟨(d, v) :: e.us, e.cs⟩ h E) : WE G (i :: π) e h E :=
  WE.call hi hg ho hx ha hd hc (fun L => by
      rw [hp]
      refine (hf L).mono ?_
      rintro v' h' L' ⟨rfl, rfl, rfl⟩
      exact ⟨rfl, GH.le_refl _, by rw [hy]; exact ⟨rfl, rfl⟩⟩)
    fun v' h' y1 y2 y3 => by
      rw [hy] at y3
      obtain ⟨rfl, rfl⟩ := y3
      rw [hp]; exact next

theorem WE.store {i : Nat} {o : Oper} {ks : List (Nat × Bool)} {t : TypeId} {p y : Operand} {b off j : Nat} {ti : TI} {x x' : Ent} {v : Value} (hi : nthL G.all.toList i = some o)
    (hg : gyes e G.all o.guard = some ks) (ho : o.op = .store t p y) (hp : e.ev ks p = some (.pointer (some ⟨b, off, none⟩))) (hy : e.ev ks y = some v) (ht : G.C.S.get t = some ti)
    (hj : G.pubs i = [j]) (hE : E j = some x) (hb : x.b = b) (hv : stV ti x off v = some x') (hd : o.dst = none) (next : WE G π e h (E.set j (some x'))) : WE G (i :: π) e h E := by
  intro a g
  refine ⟨o, by rw [nthL_eq, Array.getElem?_toList] at hi; exact hi, ?_⟩
  unfold Rg.Node
  have hk : kd o = .st := by unfold kd; rw [ho]
  obtain ⟨g1, g2⟩ := gyes_spec g hg
  rw [g1, hk]
  exact ⟨t, b, off, v, j, x, x', ti, by unfold stOf; rw [ho]; simp only [g.ev g2 hp, g.ev g2 hy], ht, hj, hE, hb, hv, hd, next a g⟩

def listU (E : Slots) : Nat → Nat → Option (List Ent)
  | _, 0 => some []
  | i, k + 1 => match E i with
    | some x => match listU E (i + 1) k with
      | some r => some (x :: r)
      | none => none
    | none => listU E (i + 1) k
theorem listU_spec (E : Slots) : ∀ (k i : Nat) {r : List Ent}, listU E i k = some r → (List.range' i k).filterMap E = r
  | 0, i, r, h => by simp only [listU, Option.some.injEq] at h; subst h; rfl
  | k + 1, i, r, h => by
    simp only [listU] at h
    rw [List.range'_succ, List.filterMap_cons]
    split at h
    · rename_i x hx
      split at h
      · rename_i r' hr
        injection h with h; subst h
        rw [hx, listU_spec E k (i + 1) hr]
      · cases h
    · rename_i hx
      rw [hx]; exact listU_spec E k (i + 1) h
def appL : List Ent → List Ent → List Ent
  | [], L => L
  | x :: l, L => x :: appL l L
theorem appL_eq : ∀ l L, appL l L = l ++ L
  | [], _ => rfl
  | x :: l, L => by simp [appL, appL_eq l L]
end we

theorem WE.nil {C : Cfg} {all : Array Oper} {L0 : List Ent} {pubs : Nat → List Nat} {Y : Nat → List Value → Value → GH → Prop} {m : Nat} {k : List It} {e : Env} {h : GH} {E : Slots} {l : List Ent}
    (hl : listU E 0 all.size = some l) (hv : V C (.ops all (all.toList.drop m) :: k) e h (l ++ L0)) : WE (drawRg C all L0 pubs Y m k) [] e h E := fun a g => by
  refine ⟨e, g, ?_⟩
  have : Slots.list all.size E = l := by
    unfold Slots.list
    rw [List.range_eq_range']
    exact listU_spec E all.size 0 hl
  rw [this]; exact hv

/-! ### slices -/
variable {C : Cfg} {k : List It} {e : Env} {h : GH} {L : List Ent}

/-- the address of an element, and how many there are -/
def idxv (S : TT) (t : TypeId) (x : Value) (i : Int) : Option (Value × Nat) := match S.get t with
  | some ti => match ti.d with
    | .slice el => match S.get el with
      | some ei => match x with
        | .slice (some ⟨b, o, none⟩) n _ => some (.pointer (some ⟨b, o + i.toNat * ei.size, none⟩), n)
        | _ => none
      | none => none
    | .array n el => match S.get el with
      | some ei => match x with
        | .pointer (some ⟨b, o, none⟩) => some (.pointer (some ⟨b, o + i.toNat * ei.size, none⟩), n)
        | _ => none
      | none => none
    | _ => none
  | none => none

theorem run_idxv {P : Program} {S : TT} (hS : S.Ok P) {w : World} {t : TypeId} {x v : Value} {i : Int} {kk : IntKind} {n : Nat} (hv : idxv S t x i = some (v, n)) (h0 : 0 ≤ i) (h1 : i < n) :
    (Instr.indexAt t x (.int kk i)).run P w = .ok v w := by
  unfold idxv at hv
  split at hv
  · rename_i ti ht
    have ok := TT.Ok.get hS ht
    split at hv
    · rename_i el hd
      split at hv
      · rename_i ei hei
        have oke := TT.Ok.get hS hei
        split at hv
        · injection hv with hv; injection hv with e1 e2; subst e1; subst e2
          simp [Instr.indexAt, asIntOf, run_underlying ok, hd, h0, h1, run_sizeOf oke, add_norm]
        · cases hv
      · cases hv
    · rename_i n' el hd
      split at hv
      · rename_i ei hei
        have oke := TT.Ok.get hS hei
        split at hv
        · injection hv with hv; injection hv with e1 e2; subst e1; subst e2
          simp [Instr.indexAt, asIntOf, run_underlying ok, hd, h0, h1, run_sizeOf oke, add_norm, Instr.sureAddr]
        · cases hv
      · cases hv
    · cases hv
  · cases hv

theorem V.index {all : Array Oper} {o : Oper} {l : List Oper} {m : Option (Nat × Bool)} {ks : List (Nat × Bool)} {t : TypeId} {x ix : Operand} {xv v : Value} {kk : IntKind} {i : Int} {n : Nat} {e' : Env}
    (hg : gmode e all o.guard = some (m, ks)) (ho : o.op = .indexAddr t x ix) (hx : e.ev ks x = some xv) (hi : e.ev ks ix = some (.int kk i)) (hv : idxv C.S t xv i = some (v, n))
    (hput : e.put C.n m o.dst v = some e') (h0 : 0 ≤ i) (h1 : i < n) (next : V C (.ops all l :: k) e' h L) : V C (.ops all (o :: l) :: k) e h L :=
  V.value hg (fun a w g s hk => by
    have := run_idxv (w := w) (kk := kk) C.ok hv h0 h1
    unfold execOp
    rw [ho]
    simp only [g.ev hk hx, g.ev hk hi, Sem.run_bind, this, Result.andThen_ok, Sem.run_pure]) hput next

theorem WE.index {G : Rg} {π : List Nat} {E : Slots} {j : Nat} {o : Oper} {m : Option (Nat × Bool)} {ks : List (Nat × Bool)} {t : TypeId} {x ix : Operand} {xv v : Value} {kk : IntKind} {i : Int} {n : Nat} {e' : Env}
    (hj : nthL G.all.toList j = some o) (hg : gmode e G.all o.guard = some (m, ks)) (ho : o.op = .indexAddr t x ix) (hx : e.ev ks x = some xv) (hi : e.ev ks ix = some (.int kk i)) (hv : idxv G.C.S t xv i = some (v, n))
    (hput : e.put G.C.n m o.dst v = some e') (h0 : 0 ≤ i) (h1 : i < n) (next : WE G π e' h E) : WE G (j :: π) e h E :=
  WE.value hj (kd_index ho) hg (fun a w E g s hk => by
    have := run_idxv (w := w) (kk := kk) G.C.ok hv h0 h1
    unfold execOp
    rw [ho]
    simp only [g.ev hk hx, g.ev hk hi, Sem.run_bind, this, Result.andThen_ok, Sem.run_pure]) hput next

theorem run_litL {P : Program} {S : TT} (hS : S.Ok P) {o : Oper} {a : Act} {w : World} {t : TypeId} {len : Nat} {parts : Array (Nat × Operand)} {cs : List Value} {ρ : Operand → Option Value} (ho : o.op = .buildSlice t len parts)
    (hρ : ∀ x v, ρ x = some v → a.eval x = v) (hl : litL S ρ t len parts.toList = some cs) : ∃ el, (execOp a.eval o).run P w = .ok (.value (.slice (some ⟨w.heap.size, 0, none⟩) len len)) (w.alloc (.cells ⟨cs⟩ el)) := by
  have hl' := litL_mono (ρ' := fun x => some (a.eval x)) (fun x v hx => by rw [hρ _ _ hx]) hl
  exact run_mkOf hS (cs := cs) (sh := some len) (by unfold mkOf; rw [ho]; simp only [hl'])

/-- a slice's literal, owned -/
theorem V.lit {all : Array Oper} {o : Oper} {l : List Oper} {ks : List (Nat × Bool)} {t : TypeId} {len : Nat} {parts : Array (Nat × Operand)} {cs : List Value} {d : Nat}
    (hg : gyes e all o.guard = some ks) (ho : o.op = .buildSlice t len parts) (hl : litL C.S (e.ev ks) t len parts.toList = some cs) (h1 : allOne cs = true) (hd : o.dst = some d) (hc : okPut C.n e d = true)
    (next : ∀ b, V C (.ops all l :: k) ⟨(d, .slice (some ⟨b, 0, none⟩) len len) :: e.us, e.cs⟩ h (⟨b, 0, cs, none⟩ :: L)) : V C (.ops all (o :: l) :: k) e h L :=
  V.gives hg hd hc fun a w g s hk => by
    obtain ⟨el, hr⟩ := run_litL (w := w) C.ok ho (fun x v hx => g.ev hk hx) hl
    exact ⟨_, _, h, _, hr, s.alloc ⟨cs⟩ el h1, next _⟩

/-- .. handed to the ghost heap at once -/
theorem V.litP {all : Array Oper} {o : Oper} {l : List Oper} {ks : List (Nat × Bool)} {t : TypeId} {len : Nat} {parts : Array (Nat × Operand)} {cs : List Value} {d : Nat}
    (hg : gyes e all o.guard = some ks) (ho : o.op = .buildSlice t len parts) (hl : litL C.S (e.ev ks) t len parts.toList = some cs) (h1 : allOne cs = true) (hd : o.dst = some d) (hc : okPut C.n e d = true)
    (next : ∀ b h', h.le h' → atH h' b 0 cs → V C (.ops all l :: k) ⟨(d, .slice (some ⟨b, 0, none⟩) len len) :: e.us, e.cs⟩ h' L) : V C (.ops all (o :: l) :: k) e h L :=
  V.lit hg ho hl h1 hd hc fun b => V.publish fun hle => next b _ hle fun i v hv => GH.add_at h b 0 cs hv

#print axioms V.litP
#print axioms WE.nil
#print axioms WE.call
end Go.Tp
