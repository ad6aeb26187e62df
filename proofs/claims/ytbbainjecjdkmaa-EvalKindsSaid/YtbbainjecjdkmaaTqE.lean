/-
  (TqE: a statement whose order is open, over data.)
-/
import Derived.Test.YtbbainjecjdkmaaTqD
namespace Go.Tp
open Go Go.RowKit
set_option linter.unusedVariables false
set_option linter.unusedSimpArgs false

theorem WE.valueY {G : Rg} {π : List Nat} {e : Env} {h : GH} {E : Slots} {i : Nat} {o : Oper} {ks : List (Nat × Bool)} {v : Value} {e' : Env} (ho : nthL G.all.toList i = some o) (hk : kd o = .qt) (hg : gyes e G.all o.guard = some ks)
    (hr : ∀ a w E, Ag G.C.n e a → St G.C.w0 h (E ++ G.L0) w → keysOk a ks → (execOp a.eval o).run G.C.P w = .ok (.value v) w) (hp : e.put G.C.n none o.dst v = some e') (next : WE G π e' h E) : WE G (i :: π) e h E := by
  intro a g
  refine ⟨o, by rw [nthL_eq, Array.getElem?_toList] at ho; exact ho, ?_⟩
  obtain ⟨hon, hks⟩ := gyes_spec g hg
  unfold Rg.Node
  rw [hon, hk]
  exact ⟨v, fun E' w s => hr a w E' g s hks, next _ (g.put hp)⟩

abbrev Da := List (Nat × AEnt)
def lookD : Da → Nat → Option AEnt
  | [], _ => none
  | (k, v) :: r, t => match Nat.beq k t with | true => some v | false => lookD r t
def RpDo (h : GH) : Option AEnt → Option Ent → Prop
  | some x, y => ∃ p, y = some p ∧ RpEnt h x [p]
  | none, y => y = none
def RpD (h : GH) (D : Da) (Es : Slots) : Prop := ∀ i, RpDo h (lookD D i) (Es i)
theorem RpDo.mono {h h' : GH} (hl : h.le h') {x : Option AEnt} {y : Option Ent} (r : RpDo h x y) : RpDo h' x y := by
  cases x with
  | none => exact r
  | some x => obtain ⟨p, h1, h2⟩ := r; exact ⟨p, h1, h2.mono hl⟩
theorem RpD.mono {h h' : GH} (hl : h.le h') {D : Da} {Es : Slots} (r : RpD h D Es) : RpD h' D Es := fun i => (r i).mono hl
theorem RpD.set {h : GH} {D : Da} {Es : Slots} (r : RpD h D Es) {i : Nat} {x : AEnt} {p : Ent} (q : RpEnt h x [p]) : RpD h ((i, x) :: D) (Es.set i (some p)) := fun j => by
  simp only [lookD, Slots.set]
  by_cases hj : j = i
  · subst hj; simp only [Nat.beq_refl, if_true]; exact ⟨p, rfl, q⟩
  · rw [if_neg hj]
    have : Nat.beq i j = false := by
      cases hb : Nat.beq i j with
      | false => rfl
      | true => exact absurd (Nat.eq_of_beq_eq_true hb).symm hj
    rw [this]; exact r j
/-- some taken away -/
def dropD (ps : List Nat) : Da → Da
  | [] => []
  | (k, v) :: r => match memB k ps with | true => dropD ps r | false => (k, v) :: dropD ps r
theorem lookD_drop (ps : List Nat) : ∀ (D : Da) (i : Nat), lookD (dropD ps D) i = if i ∈ ps then none else lookD D i
  | [], i => by simp [dropD, lookD]
  | (k, v) :: D, i => by
    have ih := lookD_drop ps D i
    simp only [dropD]
    cases hm : memB k ps with
    | true =>
      have hm := memB_iff.1 hm
      simp only [ih, lookD]
      split
      · rfl
      · rename_i hi
        have : Nat.beq k i = false := by
          cases hb : Nat.beq k i with
          | false => rfl
          | true => have := Nat.eq_of_beq_eq_true hb; subst this; exact absurd hm hi
        rw [this]
    | false =>
      have hm : k ∉ ps := fun hh => by rw [memB_iff.2 hh] at hm; cases hm
      simp only [lookD]
      cases hb : Nat.beq k i with
      | true => have := Nat.eq_of_beq_eq_true hb; subst this; simp only [if_neg hm]
      | false => exact ih
theorem RpD.pub {h : GH} {D : Da} {Es : Slots} (r : RpD h D Es) (ps : List Nat) : RpD h (dropD ps D) (pubE ps Es) := fun i => by
  rw [lookD_drop, pubE_at]
  split
  · rfl
  · exact r i
def YA (Y : Ua) : Nat → List Value → Value → GH → Prop := fun i _ v h' => match lookA Y i with
  | some y => Rp h' y v
  | none => False

def lenO : List Oper → Nat
  | [] => 0
  | _ :: r => Nat.succ (lenO r)
theorem lenO_eq (l : List Oper) : lenO l = l.length := by induction l with
  | nil => rfl
  | cons x r ih => simp [lenO, ih]
structure WA (K : AC) (all : Array Oper) (m : Nat) (k : List It) (pubs : Nat → List Nat) (Y : Ua) (π : List Nat) (E : AEnv) (Λ : List AEnt) (D : Da) : Prop where
  run : ∀ h e L Es, K.h0.le h → RpEnv h E e → RpL h Λ L → RpD h D Es → WE (drawRg K.cfg all (L ++ K.F) pubs (YA Y) m k) π e h Es

/-! ### published in passing -/
mutual
inductive SbP (D : Da) (ps : List Nat) : AV → AV → Prop
  | sub {x y : AV} : Sb x y → SbP D ps x y
  | pub {j sz n : Nat} {z : Value} {l l' : List AV} : lookD D j = some (.row sz z l) → memB j ps = true → SbPL D ps l l' → SbP D ps (.ms z sz n) (.sl sz l' none)
inductive SbPL (D : Da) (ps : List Nat) : List AV → List AV → Prop
  | sub {x y : List AV} : SbL x y → SbPL D ps x y
  | cons {x y : AV} {l r : List AV} : SbP D ps x y → SbPL D ps l r → SbPL D ps (x :: l) (y :: r)
end
theorem RpRow.pub {h : GH} {sz : Nat} {z : Value} {l : List AV} {p : Ent} (r : RpRow h sz z l p) : ∃ a cap zs, z = .slice a l.length cap ∧ l.length ≤ cap ∧ RpC h l zs ∧ (∀ z, z ∈ zs → (cellsL z).length = sz) ∧ (l ≠ [] → ∃ b o sp, a = some ⟨b, o, none⟩ ∧ p = ⟨b, o, catL zs ++ sp, none⟩) := by
  obtain ⟨a, cap, zs, rfl, h2, h3, h4, h5⟩ := r
  refine ⟨a, cap, zs, rfl, h2, h3.rp, h3.sz, fun hn => ?_⟩
  rcases h5 with ⟨h5, _⟩ | h5
  · exact (hn h5).elim
  · obtain ⟨b, o, sp, k1, k2, _⟩ := h5
    exact ⟨b, o, sp, k1, k2⟩
theorem SbPL.len {D : Da} {ps : List Nat} {l r : List AV} (s : SbPL D ps l r) : l.length = r.length := by
  induction r generalizing l with
  | nil => cases s with
    | sub s => exact s.len
  | cons x r ih => cases s with
    | sub s => exact s.len
    | cons _ s => simp [ih s]
mutual
theorem SbP.rp {h h' : GH} {D : Da} {Es : Slots} {ps : List Nat} (r : RpD h D Es) (hl : h.le h') (hp : ∀ j, j ∈ ps → ∀ x, Es j = some x → atH h' x.b x.lo x.cs) : ∀ {x y : AV} (s : SbP D ps x y) {v : Value} (q : Rp h x v), Rp h' y v
  | _, _, .sub s, _, q => (s.rp q).mono hl
  | _, _, .pub (j := j) (l := l) (l' := l') hd hm hs, _, q => by
    have := r j
    rw [hd] at this
    obtain ⟨p, e1, p', e2, e3⟩ := this
    injection e3 with e3; subst e3
    rw [Rp_ms] at q
    obtain ⟨rfl, _⟩ := q
    have hat := hp j (memB_iff.1 hm) p e1
    obtain ⟨a, cap, zs, rfl, g2, g3, g4, g5⟩ := e2.pub
    have hlen := hs.len
    rw [Rp_sl, ← hlen]
    refine ⟨a, cap, rfl, g2, trivial, fun hn => ?_⟩
    obtain ⟨b, o, sp, rfl, rfl⟩ := g5 (fun hh => hn (by subst hh; exact List.length_eq_zero_iff.1 hlen.symm))
    exact ⟨b, o, rfl, RpE_of (SbPL.rp r hl hp hs g3) g4 (atH.left hat)⟩
theorem SbPL.rp {h h' : GH} {D : Da} {Es : Slots} {ps : List Nat} (r : RpD h D Es) (hl : h.le h') (hp : ∀ j, j ∈ ps → ∀ x, Es j = some x → atH h' x.b x.lo x.cs) : ∀ {x y : List AV} (s : SbPL D ps x y) {v : List Value} (q : RpC h x v), RpC h' y v
  | _, _, .sub s, _, q => (s.rp q).mono hl
  | _, _, .cons s t, _, q => by
    rw [RpC_cons] at q ⊢
    obtain ⟨u, us, rfl, h1, h2⟩ := q
    exact ⟨u, us, rfl, SbP.rp r hl hp s h1, SbPL.rp r hl hp t h2⟩
end

section
variable {K : AC} {all : Array Oper} {m : Nat} {k : List It} {pubs : Nat → List Nat} {Y : Ua} {π : List Nat} {E : AEnv} {Λ : List AEnt} {D : Da}

/-- **a statement whose order is open** -/
theorem A.draw {id : Nat} (m : Nat) (π : List Nat) (pubs : Nat → List Nat) (Y : Ua) (hm : K.P.follows .mixedOrders = true) (hok : drawOk all m π pubs = true) (hv : WA K all m k pubs Y π E Λ []) : A K (.code (.region id all true) :: k) E Λ :=
  ⟨fun h e L hl r q => V.draw (C := K.cfg) m π pubs (YA Y) hm hok (hv.run h e L Slots.none hl r q fun i => rfl)⟩

def wstepA (S : TT) (gs : Ua) (n : Nat) (all : Array Oper) (π : List Nat) (E : AEnv) : Option (List Nat × AEnv) :=
  match π with
  | [] => none
  | i :: π => match nthL all.toList i with
    | some o => match kdQt o with
      | true => match gmodeA E all o.guard with
        | some (m, ks) => match apve S gs E ks o.op with
          | some v => match E.put n m o.dst v with
            | some E' => some (π, E')
            | none => none
          | none => none
        | none => none
      | false => none
    | none => none
def wstepYA (S : TT) (gs : Ua) (n : Nat) (all : Array Oper) (π : List Nat) (E : AEnv) : Option (List Nat × AEnv) :=
  match π with
  | [] => none
  | i :: π => match nthL all.toList i with
    | some o => match kdQt o with
      | true => match gyesA E all o.guard with
        | some ks => match apve S gs E ks o.op with
          | some v => match E.put n none o.dst v with
            | some E' => some (π, E')
            | none => none
          | none => none
        | none => none
      | false => none
    | none => none
theorem kdQt_eq {o : Oper} (h : kdQt o = true) : kd o = .qt := by
  unfold kdQt at h
  split at h
  · assumption
  · cases h
theorem WA.step {π' : List Nat} {E' : AEnv} (hs : wstepA K.S K.gs K.n all π E = some (π', E')) (next : WA K all m k pubs Y π' E' Λ D) : WA K all m k pubs Y π E Λ D := by
  refine ⟨fun h e L Es hl r q d => ?_⟩
  unfold wstepA at hs
  split at hs
  · cases hs
  · split at hs
    · rename_i o ho
      split at hs
      · rename_i hk
        split at hs
        · rename_i mm ks hg
          split at hs
          · rename_i v hpv
            split at hs
            · rename_i E'' hput
              injection hs with hs; injection hs with h1 h2; subst h1; subst h2
              rw [gmodeA_eq r] at hg
              obtain ⟨y, e1, e2⟩ := run_apve (P := K.P) (w0 := K.w0) (n := K.n) (L := []) K.ok (K.hgs.mono hl) r hpv
              obtain ⟨e', e3, e4⟩ := putA_eq r hput e1
              refine WE.value (G := drawRg K.cfg all (L ++ K.F) pubs (YA Y) m k) ho (kdQt_eq hk) hg (fun a w E0 g s hks => e2 a w g (s.sub (List.nil_sublist _)) hks) e3 (next.run h e' L Es hl e4 q d)
            · cases hs
          · cases hs
        · cases hs
      · cases hs
    · cases hs
theorem WA.stepY {π' : List Nat} {E' : AEnv} (hs : wstepYA K.S K.gs K.n all π E = some (π', E')) (next : WA K all m k pubs Y π' E' Λ D) : WA K all m k pubs Y π E Λ D := by
  refine ⟨fun h e L Es hl r q d => ?_⟩
  unfold wstepYA at hs
  split at hs
  · cases hs
  · split at hs
    · rename_i o ho
      split at hs
      · rename_i hk
        split at hs
        · rename_i ks hg
          split at hs
          · rename_i v hpv
            split at hs
            · rename_i E'' hput
              injection hs with hs; injection hs with h1 h2; subst h1; subst h2
              obtain ⟨y, e1, e2⟩ := run_apve (P := K.P) (w0 := K.w0) (n := K.n) (L := []) K.ok (K.hgs.mono hl) r hpv
              obtain ⟨e', e3, e4⟩ := putA_eq r hput e1
              refine WE.valueY (G := drawRg K.cfg all (L ++ K.F) pubs (YA Y) m k) ho (kdQt_eq hk) (gyesA_eq r hg) (fun a w E0 g s hks => e2 a w g (s.sub (List.nil_sublist _)) hks) e3 (next.run h e' L Es hl e4 q d)
            · cases hs
          · cases hs
        · cases hs
      · cases hs
    · cases hs
theorem WA.load {i : Nat} {o : Oper} {mm : Option (Nat × Bool)} {ks : List (Nat × Bool)} {t : TypeId} {p : Operand} {b off : Nat} {ti : TI} {x y : AV} {E' : AEnv}
    (hi : nthL all.toList i = some o) (hg : gmodeA E all o.guard = some (mm, ks)) (ho : o.op = .load t p) (hp : E.ev K.gs ks p = some (.v (.pointer (some ⟨b, off, none⟩)))) (ht : K.S.get t = some ti) [z : AAt Λ b x]
    (hv : ldA ti x off = some y) (hput : E.put K.n mm o.dst y = some E') (next : WA K all m k pubs Y π E' Λ D) : WA K all m k pubs Y (i :: π) E Λ D := by
  refine ⟨fun h e L Es hl r q d => ?_⟩
  rw [gmodeA_eq r] at hg
  obtain ⟨v1, e1, f1⟩ := r.ev (K.hgs.mono hl) _ hp
  rw [Rp_v] at f1; rw [f1.1] at e1
  obtain ⟨pe, g1, u, g2, g3⟩ := q.mem z.mem
  subst g3
  have g1 := g1 _ (List.mem_singleton.2 rfl)
  obtain ⟨v, e2, e3⟩ := ldA_rp (b := b) g2 hv
  obtain ⟨e', e4, e5⟩ := putA_eq r hput e3
  exact WE.load (G := drawRg K.cfg all (L ++ K.F) pubs (YA Y) m k) hi hg ho e1 ht (z := ⟨List.mem_append_left _ g1, rfl⟩) e2 e4 (next.run h e' L Es hl e5 q d)
theorem WA.loadY {i : Nat} {o : Oper} {ks : List (Nat × Bool)} {t : TypeId} {p : Operand} {b off : Nat} {ti : TI} {x y : AV} {E' : AEnv}
    (hi : nthL all.toList i = some o) (hg : gyesA E all o.guard = some ks) (ho : o.op = .load t p) (hp : E.ev K.gs ks p = some (.v (.pointer (some ⟨b, off, none⟩)))) (ht : K.S.get t = some ti) [z : AAt Λ b x]
    (hv : ldA ti x off = some y) (hput : E.put K.n none o.dst y = some E') (next : WA K all m k pubs Y π E' Λ D) : WA K all m k pubs Y (i :: π) E Λ D := by
  refine ⟨fun h e L Es hl r q d => ?_⟩
  obtain ⟨v1, e1, f1⟩ := r.ev (K.hgs.mono hl) _ hp
  rw [Rp_v] at f1; rw [f1.1] at e1
  obtain ⟨pe, g1, u, g2, g3⟩ := q.mem z.mem
  subst g3
  have g1 := g1 _ (List.mem_singleton.2 rfl)
  obtain ⟨v, e2, e3⟩ := ldA_rp (b := b) g2 hv
  obtain ⟨e', e4, e5⟩ := putA_eq r hput e3
  exact WE.valueY (G := drawRg K.cfg all (L ++ K.F) pubs (YA Y) m k) hi (kd_load ho) (gyesA_eq r hg) (fun a w E0 g s hk => by
    have := run_ldV (TT.Ok.get K.ok ht) (s.own ⟨b, 0, cellsL u, none⟩ (List.mem_append_right _ (List.mem_append_left _ g1))) rfl e2
    unfold execOp
    rw [ho]
    have this : Sem.run K.cfg.P (Instr.loadAt t (Value.pointer (some ⟨b, off, none⟩))) w = .ok v w := this
    simp only [g.ev hk e1, Sem.run_bind, this, Result.andThen_ok, Sem.run_pure]) e4 (next.run h e' L Es hl e5 q d)
theorem WA.index {i0 : Nat} {o : Oper} {ks : List (Nat × Bool)} {t el : TypeId} {ti ei : TI} {x ix : Operand} {xv y y' : AV} {xs : List AV} {own : Option Value} {kk : IntKind} {i : Int} {E' : AEnv}
    (hi0 : nthL all.toList i0 = some o) (hg : gyesA E all o.guard = some ks) (ho : o.op = .indexAddr t x ix) (hx : E.ev K.gs ks x = some xv) (hi : E.ev K.gs ks ix = some (.v (.int kk i))) (ht : K.S.get t = some ti) (hdd : ti.d = .slice el) (he : K.S.get el = some ei)
    (hs : slOf ei.size xv = some (xs, own)) (h0 : 0 ≤ i) (hy : xs[i.toNat]? = some y) (hy' : y = y') (hput : E.put K.n none o.dst (.pe ei.size y') = some E') (next : WA K all m k pubs Y π E' Λ D) : WA K all m k pubs Y (i0 :: π) E Λ D := by
  subst hy'
  refine ⟨fun h e L Es hl r q d => ?_⟩
  obtain ⟨v1, e1, f1⟩ := r.ev (K.hgs.mono hl) _ hx
  obtain ⟨v2, e2, f2⟩ := r.ev (K.hgs.mono hl) _ hi
  rw [Rp_v] at f2; rw [f2.1] at e2
  have f1 := slOf_rp hs f1
  rw [Rp_sl] at f1
  obtain ⟨a, cap, rfl, _, _, h4⟩ := f1
  have hlt : i.toNat < xs.length := by
    rcases Nat.lt_or_ge i.toNat xs.length with h | h
    · exact h
    · rw [List.getElem?_eq_none h] at hy; cases hy
  obtain ⟨b, off, rfl, h5⟩ := h4 (fun hn => by subst hn; simp at hlt)
  obtain ⟨z, g1, g2, g3⟩ := h5.at hy
  obtain ⟨e', e4, e5⟩ := putA_eq r hput (Rp_pe.2 ⟨b, off + i.toNat * ei.size, z, rfl, g1, g2, g3⟩)
  have hiv : idxv K.S t (.slice (some ⟨b, off, none⟩) xs.length cap) i = some (.pointer (some ⟨b, off + i.toNat * ei.size, none⟩), xs.length) := by simp only [idxv, ht, hdd, he]
  exact WE.valueY (G := drawRg K.cfg all (L ++ K.F) pubs (YA Y) m k) hi0 (kd_index ho) (gyesA_eq r hg) (fun a w E0 g s hk => by
    have := run_idxv (P := K.cfg.P) (w := w) (kk := kk) K.ok hiv h0 (by omega)
    unfold execOp
    rw [ho]
    simp only [g.ev hk e1, g.ev hk e2, Sem.run_bind, this, Result.andThen_ok, Sem.run_pure]) e4 (next.run h e' L Es hl e5 q d)
theorem WA.skip {i : Nat} {o : Oper} {x : Bool} {E' : AEnv} (hi : nthL all.toList i = some o) (hg : gnoA E all o.guard = some x) (hp : E.put K.n none o.dst (.tp []) = some E') (next : WA K all m k pubs Y π E' Λ D) : WA K all m k pubs Y (i :: π) E Λ D := by
  refine ⟨fun h e L Es hl r q d => ?_⟩
  obtain ⟨e', e3, e4⟩ := putA_eq r hp (y := undef) (Rp_tp.2 ⟨[], rfl, RpC_nil.2 rfl⟩)
  exact WE.skip (G := drawRg K.cfg all (L ++ K.F) pubs (YA Y) m k) hi (gnoA_eq r hg) e3 (next.run h e' L Es hl e4 q d)
theorem WA.pickT {i : Nat} {o : Oper} {mm : Option (Nat × Bool)} {ks : List (Nat × Bool)} {c x y : Operand} {v : AV} {E' : AEnv} (hi : nthL all.toList i = some o) (hg : gmodeA E all o.guard = some (mm, ks)) (ho : o.op = .pick c x y) (hc : E.ev K.gs ks c = some (.v (.bool true)))
    (hx : E.ev K.gs ks x = some v) (hp : E.put K.n mm o.dst v = some E') (next : WA K all m k pubs Y π E' Λ D) : WA K all m k pubs Y (i :: π) E Λ D := by
  refine ⟨fun h e L Es hl r q d => ?_⟩
  rw [gmodeA_eq r] at hg
  obtain ⟨v1, e1, f1⟩ := r.ev (K.hgs.mono hl) _ hc
  obtain ⟨v2, e2, f2⟩ := r.ev (K.hgs.mono hl) _ hx
  rw [Rp_v] at f1; rw [f1.1] at e1
  obtain ⟨e', e3, e4⟩ := putA_eq r hp f2
  exact WE.pickT (G := drawRg K.cfg all (L ++ K.F) pubs (YA Y) m k) hi hg ho e1 e2 e3 (next.run h e' L Es hl e4 q d)
theorem WA.pickF {i : Nat} {o : Oper} {mm : Option (Nat × Bool)} {ks : List (Nat × Bool)} {c x y : Operand} {v : AV} {E' : AEnv} (hi : nthL all.toList i = some o) (hg : gmodeA E all o.guard = some (mm, ks)) (ho : o.op = .pick c x y) (hc : E.ev K.gs ks c = some (.v (.bool false)))
    (hx : E.ev K.gs ks y = some v) (hp : E.put K.n mm o.dst v = some E') (next : WA K all m k pubs Y π E' Λ D) : WA K all m k pubs Y (i :: π) E Λ D := by
  refine ⟨fun h e L Es hl r q d => ?_⟩
  rw [gmodeA_eq r] at hg
  obtain ⟨v1, e1, f1⟩ := r.ev (K.hgs.mono hl) _ hc
  obtain ⟨v2, e2, f2⟩ := r.ev (K.hgs.mono hl) _ hx
  rw [Rp_v] at f1; rw [f1.1] at e1
  obtain ⟨e', e3, e4⟩ := putA_eq r hp f2
  exact WE.pickF (G := drawRg K.cfg all (L ++ K.F) pubs (YA Y) m k) hi hg ho e1 e2 e3 (next.run h e' L Es hl e4 q d)
theorem WA.val (t : Nat) {x x' : AV} (hx : lookA E.us t = some x) (hs : Sb x x') (next : WA K all m k pubs Y π ⟨(t, x') :: E.us, E.cs⟩ Λ D) : WA K all m k pubs Y π E Λ D := by
  refine ⟨fun h e L Es hl r q d => ?_⟩
  rcases r.1.look t with ⟨y, v, e1, e2, e3⟩ | ⟨e1, e2⟩
  · rw [hx] at e1; injection e1 with e1; subst e1
    exact WE.val (G := drawRg K.cfg all (L ++ K.F) pubs (YA Y) m k) t e2 rfl (next.run h ⟨(t, v) :: e.us, e.cs⟩ L Es hl ⟨r.1.put (hs.rp e3), r.2⟩ q d)
  · rw [hx] at e1; cases e1
theorem WA.valE (t : Nat) {x x' : AV} (hx : lookA E.us t = some x) (hs : x = x') (next : WA K all m k pubs Y π ⟨(t, x') :: E.us, E.cs⟩ Λ D) : WA K all m k pubs Y π E Λ D := WA.val t hx (by subst hs; exact .refl) next
theorem WA.split (t : Nat) {g : Bool} (hx : lookA E.us t = some (.v (.bool g))) (ht : g = true → WA K all m k pubs Y π ⟨(t, .v (.bool true)) :: E.us, E.cs⟩ Λ D) (hf : g = false → WA K all m k pubs Y π ⟨(t, .v (.bool false)) :: E.us, E.cs⟩ Λ D) : WA K all m k pubs Y π E Λ D := by
  cases g
  · exact WA.val t hx .refl (hf rfl)
  · exact WA.val t hx .refl (ht rfl)
theorem WA.alloc {i : Nat} {o : Oper} {ks : List (Nat × Bool)} {t : TypeId} {ti : TI} {d : Nat} {x : AV} (hi : nthL all.toList i = some o)
    (hg : gyesA E all o.guard = some ks) (ho : o.op = .alloc t) (ht : K.S.get t = some ti) (hz : zeroA ti = some x) (hd : o.dst = some d) (hc : okPutA K.n E d = true) (hE : lookD D i = none)
    (next : ∀ b, WA K all m k pubs Y π ⟨(d, .v (.pointer (some ⟨b, 0, none⟩))) :: E.us, E.cs⟩ Λ ((i, .box b x) :: D)) : WA K all m k pubs Y (i :: π) E Λ D := by
  refine ⟨fun h e L Es hl r q dd => ?_⟩
  have hE' : Es i = none := by have := dd i; rw [hE] at this; exact this
  refine WE.alloc (G := drawRg K.cfg all (L ++ K.F) pubs (YA Y) m k) hi (gyesA_eq r hg) ho ht (zeroA_one hz) hd (okPutA_eq r hc) hE' fun b => ?_
  obtain ⟨z, e1, e2⟩ := zeroA_rp (h := h) hz
  exact (next b).run h _ L _ hl ⟨r.1.put (Rp_v.2 ⟨rfl, rfl⟩), r.2⟩ q (dd.set ⟨z, e1, by rw [e2]⟩)
theorem WA.lit {i : Nat} {o : Oper} {ks : List (Nat × Bool)} {t : TypeId} {len : Nat} {parts : Array (Nat × Operand)} {sz : Nat} {xs : List AV} {d : Nat} (hi : nthL all.toList i = some o)
    (hg : gyesA E all o.guard = some ks) (ho : o.op = .buildSlice t len parts) (hx : litA K.S (E.ev K.gs ks) t len parts.toList = some (sz, xs)) (hd : o.dst = some d) (hc : okPutA K.n E d = true) (hE : lookD D i = none)
    (next : ∀ b, WA K all m k pubs Y π ⟨(d, .ms (.slice (some ⟨b, 0, none⟩) len len) sz len) :: E.us, E.cs⟩ Λ ((i, .row sz (.slice (some ⟨b, 0, none⟩) len len) xs) :: D)) : WA K all m k pubs Y (i :: π) E Λ D := by
  refine ⟨fun h e L Es hl r q dd => ?_⟩
  have hE' : Es i = none := by have := dd i; rw [hE] at this; exact this
  obtain ⟨zs, a, b1, b2, b3⟩ := litA_rp (σ := e.ev ks) (fun z x hz => r.ev (K.hgs.mono hl) ks hz) hx
  refine WE.lit (G := drawRg K.cfg all (L ++ K.F) pubs (YA Y) m k) hi (gyesA_eq r hg) ho b1 a.oneAll hd (okPutA_eq r hc) hE' fun b => ?_
  refine (next b).run h _ L _ hl ⟨r.1.put (Rp_ms.2 ⟨rfl, _, _, rfl⟩), r.2⟩ q (dd.set ⟨_, ⟨some ⟨b, 0, none⟩, len, zs, by rw [b2], by rw [b2]; exact Nat.le_refl _, a, rfl, .inr ⟨b, 0, [], rfl, by rw [List.append_nil], by rw [b2]; simp⟩⟩, rfl⟩)
theorem WA.store {i j : Nat} {o : Oper} {ks : List (Nat × Bool)} {t : TypeId} {p y : Operand} {b off : Nat} {ti : TI} {x x' v : AV} (hi : nthL all.toList i = some o)
    (hg : gyesA E all o.guard = some ks) (ho : o.op = .store t p y) (hp : E.ev K.gs ks p = some (.v (.pointer (some ⟨b, off, none⟩)))) (hy : E.ev K.gs ks y = some v) (ht : K.S.get t = some ti) (hj : pubs i = [j]) (hE : lookD D j = some (.box b x))
    (hv : stA ti x off v = some x') (hd : o.dst = none) (next : WA K all m k pubs Y π E Λ ((j, .box b x') :: D)) : WA K all m k pubs Y (i :: π) E Λ D := by
  refine ⟨fun h e L Es hl r q dd => ?_⟩
  obtain ⟨v1, e1, f1⟩ := r.ev (K.hgs.mono hl) _ hp
  rw [Rp_v] at f1; rw [f1.1] at e1
  obtain ⟨u, e2, f2⟩ := r.ev (K.hgs.mono hl) _ hy
  have := dd j
  rw [hE] at this
  obtain ⟨pp, g1, z, g2, g3⟩ := this
  injection g3 with g3; subst g3
  obtain ⟨z', e3, e4⟩ := stA_rp (b := b) g2 f2 hv
  exact WE.store (G := drawRg K.cfg all (L ++ K.F) pubs (YA Y) m k) hi (gyesA_eq r hg) ho e1 e2 ht hj g1 rfl e3 hd (next.run h e L _ hl r q (dd.set ⟨z', e4, rfl⟩))
/-- a call of a function that only computes -/
theorem WA.callP {i : Nat} {o : Oper} {ks : List (Nat × Bool)} {x : Operand} {args : Array Operand} {ts : Array TypeId} {f : FuncId} {fst cap vs args' : List AV} {y : AV} {d : Nat} {ps : List Nat} {D' : Da} (hi : nthL all.toList i = some o)
    (hg : gyesA E all o.guard = some ks) (ho : o.op = .call ⟨.value x, args, ts⟩) (hx : E.ev K.gs ks x = some (.fn f fst cap)) (ha : evsA (E.ev K.gs ks) args.toList = some vs)
    (hd : o.dst = some d) (hc : okPutA K.n E d = true) (hp : pubs i = ps) (hD : dropD ps D = D') (hY : lookA Y i = some y) (hf : Pure K.P K.gs f args' y) (hs : SbPL D ps (fst ++ (vs ++ cap)) args')
    (next : WA K all m k pubs Y π ⟨(d, y) :: E.us, E.cs⟩ Λ D') : WA K all m k pubs Y (i :: π) E Λ D := by
  subst hD; subst hp
  refine ⟨fun h e L Es hl r q dd => ?_⟩
  obtain ⟨v1, e1, f1⟩ := r.ev (K.hgs.mono hl) _ hx
  rw [Rp_fn] at f1
  obtain ⟨u, w, rfl, f2, f3⟩ := f1
  obtain ⟨us, e2, f4⟩ := evsA_rp (σ := e.ev ks) (fun z x hz => r.ev (K.hgs.mono hl) ks hz) ha
  refine WE.callL (G := drawRg K.cfg all (L ++ K.F) pubs (YA Y) m k) hi (gyesA_eq r hg) ho e1 e2 hd (okPutA_eq r hc) (fun pk L' => ?_) (fun v h' y1 y2 y3 => ?_)
  · have hargs := hs.rp dd pk.1 pk.2 (f2.append (f4.append f3))
    refine (hf K.w0 _ _ [] L' (K.hgs.mono (GH.le_trans hl pk.1)) hargs rfl).mono ?_
    rintro v h' L'' ⟨z, Λ', L1, ⟨rfl, rfl⟩, g2, g3, g4, rfl⟩
    have g4 : L1 = [] := g4
    subst g4
    exact ⟨rfl, g3, by simp only [YA, hY]; exact g2⟩
  · have y3 : Rp h' y v := by simp only [YA, hY] at y3; exact y3
    exact next.run h' ⟨(d, v) :: e.us, e.cs⟩ L _ (GH.le_trans hl y2) ⟨(r.1.mono y2).put y3, r.2.mono y2⟩ (q.mono y2) ((dd.mono y2).pub _)

def listDn (D : Da) : Nat → Nat → List AEnt
  | _, 0 => []
  | i, n + 1 => match lookD D i with
    | some x => x :: listDn D (i + 1) n
    | none => listDn D (i + 1) n
theorem listDn_rp {h : GH} {D : Da} {Es : Slots} (d : RpD h D Es) : ∀ (n i : Nat), ∃ l, listU Es i n = some l ∧ RpL h (listDn D i n) l
  | 0, i => ⟨[], rfl, rfl⟩
  | n + 1, i => by
    obtain ⟨l, e1, e2⟩ := listDn_rp d n (i + 1)
    have := d i
    simp only [listDn, listU]
    cases hx : lookD D i with
    | none => rw [hx] at this; have this : Es i = none := this; rw [this]; exact ⟨l, e1, e2⟩
    | some x =>
      rw [hx] at this
      obtain ⟨p, e3, e4⟩ := this
      simp only [e3, e1]
      exact ⟨p :: l, rfl, .one e4 e2⟩
/-- the end of such a statement -/
theorem WA.nil {l : List AEnt} (hl : listDn D 0 (lenO all.toList) = l) (hv : A K (.ops all (all.toList.drop m) :: k) E (l ++ Λ)) : WA K all m k pubs Y [] E Λ D := by
  subst hl
  refine ⟨fun h e L Es hh r q d => ?_⟩
  obtain ⟨l, e1, e2⟩ := listDn_rp d all.size 0
  have : lenO all.toList = all.size := by rw [lenO_eq]; simp
  rw [this] at hv
  refine WE.nil e1 ?_
  have := hv.run h e (l ++ L) hh r (e2.append q)
  rwa [List.append_assoc] at this
end
end Go.Tp
