/-
  This project's own program logic, part Ld (Tq1 Tq2): generic texts, for any program. Conditions: as each theorem says.
-/
import Derived.Test.YtgmeahcclogfmaaDoorLc
/-! Tq1 -/
namespace Go.Tp
open Go Go.RowKit
set_option linter.unusedVariables false
set_option linter.unusedSimpArgs false
def slotB (E : AEnv) (t : Nat) : Option (Nat × Bool) := match lookA E.us t with
  | some (.v (.bool b)) => some (t, b)
  | _ => none
def hangs (E : AEnv) (all : Array Oper) (o : Oper) : Option (Nat × Bool) := match o.guard with
  | some (j, w) => match nthL all.toList j with
    | some o' => match o'.dst with
      | some t => match slotB E t with
        | some r => some r
        | none => none
      | none => none
    | none => none
  | none => match o.op with
    | .pick (.tmp t) x y => slotB E t
    | _ => none
def hangsP (E : AEnv) (o : Oper) : Option (Nat × Bool) := match o.op with
  | .pick (.tmp t) x y => slotB E t
  | _ => none
def gslot (E : AEnv) : List It → Option (Nat × Bool)
  | .ops all (o :: l) :: k => hangs E all o
  | .code (.cond (.tmp t) x y) :: k => slotB E t
  | _ => none
def gslotP (E : AEnv) : List It → Option (Nat × Bool)
  | .ops all (o :: l) :: k => hangsP E o
  | _ => none
def isLit : Option (Nat × Bool) → Bool
  | some (_, true) => true
  | some (_, false) => true
  | none => true
section
variable {K : AC} {k : List It} {E : AEnv} {Λ : List AEnt}
theorem slotB_eq {t t' : Nat} {p : Bool} (h : slotB E t = some (t', p)) : t = t' ∧ lookA E.us t' = some (.v (.bool p)) := by
  unfold slotB at h
  split at h
  · rename_i b hb
    injection h with h; injection h with h1 h2; subst h1; subst h2
    exact ⟨rfl, hb⟩
  · cases h
theorem hangs_eq {all : Array Oper} {o : Oper} {t : Nat} {p : Bool} (h : hangs E all o = some (t, p)) : lookA E.us t = some (.v (.bool p)) := by
  unfold hangs at h
  split at h
  · split at h
    · split at h
      · split at h
        · rename_i r hr; injection h with h; subst h; exact (slotB_eq hr).2
        · cases h
      · cases h
    · cases h
  · split at h
    · exact (slotB_eq h).2
    · cases h
theorem gslot_eq {t : Nat} {p : Bool} (h : gslot E k = some (t, p)) : lookA E.us t = some (.v (.bool p)) := by
  unfold gslot at h
  split at h
  · exact hangs_eq h
  · exact (slotB_eq h).2
  · cases h
theorem gslotP_eq {t : Nat} {p : Bool} (h : gslotP E k = some (t, p)) : lookA E.us t = some (.v (.bool p)) := by
  unfold gslotP at h
  split at h
  · unfold hangsP at h
    split at h
    · exact (slotB_eq h).2
    · cases h
  · cases h
theorem A.gS {t : Nat} {p : Bool} (h : gslot E k = some (t, p)) (ht : p = true → A K k ⟨(t, .v (.bool true)) :: E.us, E.cs⟩ Λ) (hf : p = false → A K k ⟨(t, .v (.bool false)) :: E.us, E.cs⟩ Λ) : A K k E Λ :=
  A.split t (gslot_eq h) ht hf
theorem A.gSP {t : Nat} {p : Bool} (h : gslotP E k = some (t, p)) (ht : p = true → A K k ⟨(t, .v (.bool true)) :: E.us, E.cs⟩ Λ) (hf : p = false → A K k ⟨(t, .v (.bool false)) :: E.us, E.cs⟩ Λ) : A K k E Λ :=
  A.split t (gslotP_eq h) ht hf
end
section
variable {K : AC} {all : Array Oper} {m : Nat} {k : List It} {pubs : Nat → List Nat} {Y : Ua} {π : List Nat} {E : AEnv} {Λ : List AEnt} {D : Da}
def wslot (E : AEnv) (all : Array Oper) : List Nat → Option (Nat × Bool)
  | i :: π => match nthL all.toList i with
    | some o => match hangs E all o with
      | some r => some r
      | none => none
    | none => none
  | [] => none
theorem wslot_eq {t : Nat} {p : Bool} (h : wslot E all π = some (t, p)) : lookA E.us t = some (.v (.bool p)) := by
  unfold wslot at h
  split at h
  · split at h
    · split at h
      · rename_i r hr; injection h with h; subst h; exact hangs_eq hr
      · cases h
    · cases h
  · cases h
theorem WA.gS {t : Nat} {p : Bool} (h : wslot E all π = some (t, p)) (ht : p = true → WA K all m k pubs Y π ⟨(t, .v (.bool true)) :: E.us, E.cs⟩ Λ D) (hf : p = false → WA K all m k pubs Y π ⟨(t, .v (.bool false)) :: E.us, E.cs⟩ Λ D) : WA K all m k pubs Y π E Λ D :=
  WA.split t (wslot_eq h) ht hf
end
/-! ### what is handed back, out of slots and variables -/
inductive ResA (S : TT) (us : Ua) (Λ : List AEnt) : List ResultVar → List AV → Prop
  | nil : ResA S us Λ [] []
  | tmp {t : Nat} {x : AV} {rs : List ResultVar} {xs : List AV} : lookA us t = some x → ResA S us Λ rs xs → ResA S us Λ (.tmp t :: rs) (x :: xs)
  | cell {p : Nat} {t : TypeId} {b off : Nat} {ti : TI} {x y : AV} {rs : List ResultVar} {xs : List AV} : lookA us p = some (.v (.pointer (some ⟨b, off, none⟩))) → S.get t = some ti → [AAt Λ b x] → ldA ti x off = some y →
      ResA S us Λ rs xs → ResA S us Λ (.cell p t :: rs) (y :: xs)
def resOne (tmps : Array Value) : ResultVar → Sem Value
  | .tmp t => pure (tmps.getD t undef)
  | .cell a t => do loadVar t (← asAddr (tmps.getD a undef))
theorem ResA.run {K : AC} {E : AEnv} {e : Env} {h : GH} {Λ : List AEnt} {L : List Ent} (r : RpEnv h E e) (q : RpL h Λ L) {rs : List ResultVar} {xs : List AV} (ra : ResA K.S E.us Λ rs xs) :
    ∃ vs, RpC h xs vs ∧ ∀ a w (M : List Ent), (∀ p, p ∈ L → p ∈ M) → Ag K.n K.D e a → St K.w0 h M w → (rs.mapM (resOne a.tmps)).run K.P w = .ok vs w := by
  induction ra with
  | nil => exact ⟨[], RpC_nil.2 rfl, fun a w M _ g s => by simp⟩
  | @tmp t x rs xs hx _ ih =>
    obtain ⟨vs, i1, i2⟩ := ih
    rcases r.1.look t with ⟨z, v, e1, e2, e3⟩ | ⟨e1, e2⟩
    · rw [hx] at e1; injection e1 with e1; subst e1
      refine ⟨v :: vs, RpC_cons.2 ⟨v, vs, rfl, e3, i1⟩, fun a w M hM g s => ?_⟩
      have h1 : (resOne a.tmps (.tmp t)).run K.P w = .ok v w := by simp [resOne, g.us _ _ e2]
      simp [List.mapM_cons, h1, i2 a w M hM g s]
    · rw [hx] at e1; cases e1
  | @cell p t b off ti x y rs xs hx ht i hv _ ih =>
    obtain ⟨vs, i1, i2⟩ := ih
    rcases r.1.look p with ⟨z, v, e1, e2, e3⟩ | ⟨e1, e2⟩
    · rw [hx] at e1; injection e1 with e1; subst e1
      rw [Rp_v] at e3; rw [e3.1] at e2
      obtain ⟨pe, g1, z, g2, g3⟩ := q.mem i.mem
      subst g3
      have g1 := g1 _ (List.mem_singleton.2 rfl)
      obtain ⟨v', e4, e5⟩ := ldA_rp (b := b) g2 hv
      refine ⟨v' :: vs, RpC_cons.2 ⟨v', vs, rfl, e5, i1⟩, fun a w M hM g s => ?_⟩
      have h0 := run_ldV (P := K.P) (TT.Ok.get K.ok ht) (s.own _ (hM _ g1)) rfl e4
      have h0' : (loadVar t ⟨b, off, none⟩).run K.P w = .ok v' w := by simpa [Instr.loadAt, Instr.sureAddr] using h0
      have h1 : (resOne a.tmps (.cell p t)).run K.P w = .ok v' w := by simp [resOne, g.us _ _ e2, h0', asAddr]
      simp [List.mapM_cons, h1, i2 a w M hM g s]
    · rw [hx] at e1; cases e1
theorem A.retN {K : AC} {k : List It} {E : AEnv} {Λ Λ' : List AEnt} {rs : List ResultVar} {x y : AV} {xs : List AV} (hk : atEnd k = true) (hr : K.fn.results.toList = rs) (ra : ResA K.S E.us Λ rs (x :: y :: xs)) (hs : Λ'.Sublist Λ) (hq : K.Q (.tp (x :: y :: xs)) Λ') (hrd : K.rd = none := by rfl) : A K k E Λ := by
  refine ⟨fun h e L hl r q => ?_⟩
  obtain ⟨vs, i1, i2⟩ := ra.run r q
  obtain ⟨L', m1, m2⟩ := q.sub hs
  refine V.ret (C := K.cfg) (atEnd_or hk) hrd rfl (v := .tuple ⟨vs⟩) (fun a w g s => ?_) ⟨_, Λ', L', hq, Rp_tp.2 ⟨vs, rfl, i1⟩, hl, m1, m2.append_right _⟩
  have hm := i2 a w (L ++ K.F) (fun p hp => List.mem_append_left _ hp) g s
  have hl2 := i1.len
  have e1 : results K.fn a.tmps = (do let vs ← K.fn.results.mapM (resOne a.tmps); pure (if h : vs.size = 1 then vs[0] else .tuple vs)) := by
    unfold results
    congr 1
  show (results K.fn a.tmps).run K.P w = _
  rw [e1, Array.mapM_eq_mapM_toList, hr]
  simp [hm]
  intro h1
  rw [h1] at hl2
  simp at hl2
end Go.Tp
/-! Tq2 -/
namespace Go.Tp
open Go Go.RowKit Go.ChangeShapes Go.WideShapes Go.ChangeAt
set_option linter.unusedVariables false
set_option linter.unusedSimpArgs false
section
variable {H : Type} {enc : TypeId × Value → H} {P : Program} {W : World} {base : Nat} {sp : Nat → Bool} {hd : Bool}
def Opn (enc : TypeId × Value → H) (P : Program) (W : World) (base : Nat) (sp : Nat → Bool) (hd : Bool) {α : Type} (n : Nat) (t : TypeId) (cells : α → List AV) (Q : α → Prop) : Prop :=
  ∀ m, m < n → ∀ cs x, DataW.trod enc P W base sp hd m t cs = some x → Wt P t x.1 → ∃ a, Q a ∧ RpC (hOf W) (cells a) cs ∧ allOne cs = true
theorem Opn.mono {α : Type} {n n' : Nat} {t : TypeId} {cells : α → List AV} {Q : α → Prop} (h : Opn enc P W base sp hd n t cells Q) (hn : n' ≤ n) : Opn enc P W base sp hd n' t cells Q := fun m hm => h m (by omega)
theorem Opn.map {α β : Type} {n : Nat} {t : TypeId} {cells : α → List AV} {Q : α → Prop} {cells' : β → List AV} {Q' : β → Prop} (h : Opn enc P W base sp hd n t cells Q) (f : α → β) (hc : ∀ a, cells' (f a) = cells a) (hq : ∀ a, Q a → Q' (f a)) :
    Opn enc P W base sp hd n t cells' Q' := fun m hm cs x h1 h2 => by
  obtain ⟨a, q, r, o⟩ := h m hm cs x h1 h2
  exact ⟨f a, hq a q, by rw [hc]; exact r, o⟩
theorem Opn.i64 {t : TypeId} (ht : P.underlying t = some (.int .i64)) (n : Nat) : Opn enc P W base sp hd n t (fun a : Int => [.v (.int .i64 a)]) Go.Tp.i64 := fun m hm cs x h1 h2 => by
  obtain ⟨a, rfl, q⟩ := open_i64 ht h1
  exact ⟨a, q, RpC_cons.2 ⟨_, _, rfl, Rp_v.2 ⟨rfl, rfl⟩, RpC_nil.2 rfl⟩, rfl⟩
theorem Opn.slice1 {α : Type} {n bt : Nat} {t e : TypeId} {en : α → AV} {Q : α → Prop} (ht : P.underlying t = some (.slice e)) (hsz : P.cellsOf e = 1) (hbt : P.bytesOf e = bt) (h : Opn enc P W base sp hd n e (fun a => [en a]) Q) :
    Opn enc P W base sp hd (n + 1) t (fun l : List α => [.sl 1 (l.map en) none]) (fun l => (∀ a, a ∈ l → Q a) ∧ l.length * bt ≤ reachBytes) := fun m hm cs x h1 h2 => by
  obtain ⟨v, l, rfl, q, r, b⟩ := open_sl en Q ht hsz hbt (by decide) (fun k hk cs y hl hy hw => by
    obtain ⟨a, q, r, o⟩ := h k (by omega) cs y hy hw
    obtain ⟨v, vs, rfl, r1, r2⟩ := RpC_cons.1 r
    rw [RpC_nil] at r2; subst r2
    have ho : oneC v = true := allOne_mem o v (List.mem_singleton.2 rfl)
    exact ⟨a, v, q, r1, cellsL_one ho, o⟩) h1 h2
  refine ⟨l, ⟨q, b⟩, RpC_cons.2 ⟨_, _, rfl, r, RpC_nil.2 rfl⟩, ?_⟩
  obtain ⟨a, c, rfl, _⟩ := Rp_sl.1 r
  rfl
def OpnF (enc : TypeId × Value → H) (P : Program) (W : World) (base : Nat) (sp : Nat → Bool) (hd : Bool) {α : Type} (n : Nat) (fs : List Field) (o : Nat) (cells : α → List AV) (Q : α → Prop) : Prop :=
  ∀ m, m < n → ∀ cs : List Value, (∀ f, f ∈ fs → ∃ y, DataW.trod enc P W base sp hd m f.type ((cs.drop f.offset).take (P.cellsOf f.type)) = some y ∧ Wt P f.type y.1) → ∃ a, Q a ∧ ∃ k, RpC (hOf W) (cells a) ((cs.drop o).take k) ∧ allOne ((cs.drop o).take k) = true ∧ o + k = (fs.getLast?.map fun f => f.offset + P.cellsOf f.type).getD o
theorem allOne_join : ∀ {a b : List Value}, allOne a = true → allOne b = true → allOne (a ++ b) = true
  | [], _, _, h => h
  | x :: a, b, h1, h2 => by
    simp only [allOne] at h1
    split at h1
    · rename_i hx
      simp only [List.cons_append, allOne, hx]
      exact allOne_join h1 h2
    · cases h1
theorem OpnF.nil {n o : Nat} : OpnF enc P W base sp hd n [] o (fun _ : Unit => []) (fun _ => True) := fun m hm cs _ => ⟨(), trivial, 0, by rw [List.take_zero]; exact RpC_nil.2 rfl, by rw [List.take_zero]; rfl, rfl⟩
theorem OpnF.cons {α β : Type} {n o : Nat} {f : Field} {fs : List Field} {c1 : α → List AV} {Q1 : α → Prop} {c2 : β → List AV} {Q2 : β → Prop} (h : Opn enc P W base sp hd n f.type c1 Q1) (ho : f.offset = o) (sz : Nat) (hsz : P.cellsOf f.type = sz) (hr : OpnF enc P W base sp hd n fs (o + sz) c2 Q2) :
    OpnF enc P W base sp hd n (f :: fs) o (fun p : α × β => c1 p.1 ++ c2 p.2) (fun p => Q1 p.1 ∧ Q2 p.2) := fun m hm cs hf => by
  obtain ⟨y, h1, h2⟩ := hf f (List.mem_cons_self ..)
  obtain ⟨a, q1, r1, o1⟩ := h m hm _ _ h1 h2
  obtain ⟨b, q2, k, r2, o2, e2⟩ := hr m hm cs (fun g hg => hf g (List.mem_cons_of_mem _ hg))
  rw [ho, hsz] at r1 o1
  have e : (cs.drop o).take (sz + k) = (cs.drop o).take sz ++ (cs.drop (o + sz)).take k := by rw [List.take_add, List.drop_drop]
  refine ⟨(a, b), ⟨q1, q2⟩, sz + k, ?_, ?_, ?_⟩
  · rw [e]; exact r1.append r2
  · rw [e]; exact allOne_join o1 o2
  · cases fs with
    | nil => simp only [List.getLast?_nil, Option.map_none, Option.getD_none] at e2; simp [hsz, ho]; omega
    | cons g gs =>
      rw [List.getLast?_cons_cons]
      obtain ⟨z, hz⟩ : ∃ z, (g :: gs).getLast? = some z := ⟨_, List.getLast?_eq_some_getLast (by simp)⟩
      rw [hz] at e2 ⊢
      simp only [Option.map_some, Option.getD_some] at e2 ⊢
      omega
theorem Opn.struct {α : Type} {n sz : Nat} {t : TypeId} {fs : Array Field} {cells : α → List AV} {Q : α → Prop} (ht : P.underlying t = some (.struct fs)) (hsz : P.cellsOf t = sz) (h : OpnF enc P W base sp hd n fs.toList 0 cells Q)
    (he : ((fs.toList.getLast?.map fun f => f.offset + P.cellsOf f.type).getD 0) = sz) : Opn enc P W base sp hd (n + 1) t cells Q := fun m hm cs x h1 h2 => by
  obtain ⟨k, hk, hl, hf⟩ := open_st ht hsz h1 h2
  obtain ⟨a, q, k', r, o, e⟩ := h k (by omega) cs (fun f hm => by
    obtain ⟨i, hi⟩ := List.mem_iff_getElem?.1 hm
    exact hf i f (by rw [← Array.getElem?_toList]; exact hi))
  rw [he, Nat.zero_add] at e
  subst e
  rw [List.drop_zero, ← hl, List.take_length] at r o
  exact ⟨a, q, r, o⟩
theorem arg_struct {α : Type} {t : TypeId} {fs : Array Field} {cells : α → List AV} {Q : α → Prop} {v : Value} {d : DataW H} {p : List MemPlace} (ht : P.underlying t = some (.struct fs)) (h : ∀ n, Opn enc P W 0 (fun _ => true) true n t cells Q)
    (hval : Value.okWide P W .any base t v) (hx : DataW.Trod enc P W 0 (fun _ => true) true t v d p) (hw : Wt P t d) : ∃ a, Q a ∧ Rp (hOf W) (.ag (cells a)) v := by
  obtain ⟨cs, rfl, _⟩ := okWide_struct ht hval
  obtain ⟨fuel, hf⟩ := hx
  obtain ⟨a, q, r, _⟩ := h (fuel + 1) fuel (Nat.lt_succ_self _) _ _ hf hw
  exact ⟨a, q, Rp_ag.2 ⟨cs.toList, rfl, r⟩⟩
end
end Go.Tp
