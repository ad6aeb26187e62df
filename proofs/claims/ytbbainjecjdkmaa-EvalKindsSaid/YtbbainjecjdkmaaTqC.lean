/-
  (TqC: what a running function will do, told over data: the judgement A, and its first rules.)
-/
import Derived.Test.YtbbainjecjdkmaaTqB
namespace Go.Tp
open Go Go.RowKit
set_option linter.unusedVariables false
set_option linter.unusedSimpArgs false

/-! ### memory of the function's own -/
/-- a variable's block; a slice that is written, its elements; many of these; the spare places behind a slice -/
inductive AEnt where
  | box (b : Nat) (x : AV)
  | row (sz : Nat) (z : Value) (l : List AV)
  | rows (sz : Nat) (hs : List (Value × List AV))
  | tail (sz : Nat) (z : Value)
/-- elements, and all their cells -/
structure Els (h : GH) (sz : Nat) (l : List AV) (zs : List Value) : Prop where
  rp : RpC h l zs
  sz : ∀ z, z ∈ zs → (cellsL z).length = sz
  one : ∀ z, z ∈ zs → allOne (cellsL z) = true
def catL (zs : List Value) : List Value := zs.flatMap cellsL
def RpRow (h : GH) (sz : Nat) (z : Value) (l : List AV) (p : Ent) : Prop :=
  ∃ a cap zs, z = .slice a l.length cap ∧ l.length ≤ cap ∧ Els h sz l zs ∧ p.obj = none ∧
    ((l = [] ∧ p.cs = [] ∧ cap = 0 ∧ ∀ y, a = some y → y.spot = none) ∨ ∃ b o sp, a = some ⟨b, o, none⟩ ∧ p = ⟨b, o, catL zs ++ sp, none⟩ ∧ sp.length = (cap - l.length) * sz)
def RpRows (h : GH) (sz : Nat) : List (Value × List AV) → List Ent → Prop
  | [], L => L = []
  | (z, l) :: r, L => ∃ p L', L = p :: L' ∧ RpRow h sz z l p ∧ RpRows h sz r L'
def RpEnt (h : GH) : AEnt → List Ent → Prop
  | .box b x, L => ∃ z, Rp h x z ∧ L = [⟨b, 0, cellsL z, none⟩]
  | .row sz z l, L => ∃ p, RpRow h sz z l p ∧ L = [p]
  | .rows sz hs, L => RpRows h sz hs L
  | .tail sz z, L => ∃ p, Tl sz z p ∧ L = [p]
def RpL (h : GH) : List AEnt → List Ent → Prop
  | [], L => L = []
  | x :: r, L => ∃ L1 L2, L = L1 ++ L2 ∧ RpEnt h x L1 ∧ RpL h r L2
theorem Els.mono {h h' : GH} (hl : h.le h') {sz : Nat} {l : List AV} {zs : List Value} (r : Els h sz l zs) : Els h' sz l zs := ⟨r.rp.mono hl, r.sz, r.one⟩
theorem RpRow.mono {h h' : GH} (hl : h.le h') {sz : Nat} {z : Value} {l : List AV} {p : Ent} (r : RpRow h sz z l p) : RpRow h' sz z l p := by
  obtain ⟨a, cap, zs, h1, h2, h3, h4⟩ := r; exact ⟨a, cap, zs, h1, h2, h3.mono hl, h4⟩
theorem RpRows.mono {h h' : GH} (hl : h.le h') {sz : Nat} : ∀ {hs : List (Value × List AV)} {L : List Ent}, RpRows h sz hs L → RpRows h' sz hs L
  | [], _, r => r
  | (z, l) :: hs, _, ⟨p, L', h1, h2, h3⟩ => ⟨p, L', h1, h2.mono hl, RpRows.mono hl h3⟩
theorem RpEnt.mono {h h' : GH} (hl : h.le h') {x : AEnt} {p : List Ent} (r : RpEnt h x p) : RpEnt h' x p := by
  cases x with
  | box b x => obtain ⟨z, h1, h2⟩ := r; exact ⟨z, h1.mono hl, h2⟩
  | row sz z l => obtain ⟨p, h1, h2⟩ := r; exact ⟨p, h1.mono hl, h2⟩
  | rows sz hs => exact RpRows.mono hl r
  | tail sz z => exact r
theorem RpL.mono {h h' : GH} (hl : h.le h') : ∀ {Λ : List AEnt} {L : List Ent}, RpL h Λ L → RpL h' Λ L
  | [], _, r => r
  | x :: r, _, ⟨p, L', h1, h2, h3⟩ => ⟨p, L', h1, h2.mono hl, RpL.mono hl h3⟩
section
variable {h : GH}
theorem RpL.perm {Λ Λ' : List AEnt} (p : Λ.Perm Λ') : ∀ {L : List Ent}, RpL h Λ L → ∃ L', RpL h Λ' L' ∧ L.Perm L' := by
  induction p with
  | nil => intro L r; exact ⟨L, r, .refl _⟩
  | cons x _ ih =>
    intro L r
    obtain ⟨q, L1, rfl, h1, h2⟩ := r
    obtain ⟨L2, h3, h4⟩ := ih h2
    exact ⟨q ++ L2, ⟨q, L2, rfl, h1, h3⟩, h4.append_left q⟩
  | swap x y l =>
    intro L r
    obtain ⟨q, L1, rfl, h1, q', L2, rfl, h2, h3⟩ := r
    refine ⟨q' ++ (q ++ L2), ⟨q', _, rfl, h2, q, L2, rfl, h1, h3⟩, ?_⟩
    rw [← List.append_assoc, ← List.append_assoc]
    exact List.perm_append_comm.append_right L2
  | trans _ _ ih1 ih2 =>
    intro L r
    obtain ⟨L1, h1, h2⟩ := ih1 r
    obtain ⟨L2, h3, h4⟩ := ih2 h1
    exact ⟨L2, h3, h2.trans h4⟩
theorem RpL.sub {Λ Λ' : List AEnt} (s : Λ'.Sublist Λ) : ∀ {L : List Ent}, RpL h Λ L → ∃ L', RpL h Λ' L' ∧ L'.Sublist L := by
  induction s with
  | slnil => intro L r; exact ⟨L, r, .refl _⟩
  | cons x _ ih =>
    intro L r
    obtain ⟨q, L1, rfl, h1, h2⟩ := r
    obtain ⟨L2, h3, h4⟩ := ih h2
    exact ⟨L2, h3, h4.trans (List.sublist_append_right q L1)⟩
  | cons_cons x _ ih =>
    intro L r
    obtain ⟨q, L1, rfl, h1, h2⟩ := r
    obtain ⟨L2, h3, h4⟩ := ih h2
    exact ⟨q ++ L2, ⟨q, L2, rfl, h1, h3⟩, h4.append_left q⟩
theorem RpL.append : ∀ {Λ Λ' : List AEnt} {L L' : List Ent}, RpL h Λ L → RpL h Λ' L' → RpL h (Λ ++ Λ') (L ++ L')
  | [], _, _, _, a, b => by cases a; exact b
  | x :: r, _, _, _, ⟨p, L1, h1, h2, h3⟩, b => by subst h1; exact ⟨p, _, by rw [List.append_assoc], h2, RpL.append h3 b⟩
theorem RpL.split : ∀ {Λ Λ' : List AEnt} {L : List Ent}, RpL h (Λ ++ Λ') L → ∃ L1 L2, L = L1 ++ L2 ∧ RpL h Λ L1 ∧ RpL h Λ' L2
  | [], _, L, a => ⟨[], L, rfl, rfl, a⟩
  | x :: r, _, _, ⟨p, L1, h1, h2, h3⟩ => by
    obtain ⟨L2, L3, g1, g2, g3⟩ := RpL.split h3
    subst h1; subst g1
    exact ⟨p ++ L2, L3, by rw [List.append_assoc], ⟨p, L2, rfl, h2, g2⟩, g3⟩
theorem RpL.one {x : AEnt} {Λ : List AEnt} {p : Ent} {L : List Ent} (a : RpEnt h x [p]) (b : RpL h Λ L) : RpL h (x :: Λ) (p :: L) := ⟨[p], L, rfl, a, b⟩
theorem RpL.mem : ∀ {Λ : List AEnt} {L : List Ent}, RpL h Λ L → ∀ {x : AEnt}, x ∈ Λ → ∃ L1, (∀ p, p ∈ L1 → p ∈ L) ∧ RpEnt h x L1
  | [], _, _, _, hx => by cases hx
  | y :: Λ, _, ⟨p, L', h1, h2, h3⟩, x, hx => by
    subst h1
    rcases List.mem_cons.1 hx with rfl | hx
    · exact ⟨p, fun q hq => List.mem_append_left _ hq, h2⟩
    · obtain ⟨q, g1, g2⟩ := RpL.mem h3 hx
      exact ⟨q, fun r hr => List.mem_append_right _ (g1 r hr), g2⟩
theorem RpL.mid {Λ1 Λ2 : List AEnt} {x : AEnt} {L : List Ent} (r : RpL h (Λ1 ++ x :: Λ2) L) : ∃ L1 M L2, L = L1 ++ (M ++ L2) ∧ RpL h Λ1 L1 ∧ RpEnt h x M ∧ RpL h Λ2 L2 := by
  obtain ⟨L1, L', h1, h2, p, L2, h3, h4, h5⟩ := r.split
  subst h3
  exact ⟨L1, p, L2, h1, h2, h4, h5⟩
theorem RpL.mid_of {Λ1 Λ2 : List AEnt} {x : AEnt} {L1 M L2 : List Ent} (a : RpL h Λ1 L1) (b : RpEnt h x M) (c : RpL h Λ2 L2) : RpL h (Λ1 ++ x :: Λ2) (L1 ++ (M ++ L2)) := a.append ⟨M, L2, rfl, b, c⟩
end

/-! ### the judgement -/
structure AC where
  P : Program
  S : TT
  w0 : World
  f : FuncId
  fn : Func
  n : Nat
  ok : S.Ok P
  hfn : P.funcs[f]? = some fn
  h0 : GH
  F : List Ent
  gs : Ua
  hgs : GsOk h0 gs
  Q : AV → List AEnt → Prop
def AC.R (K : AC) : Value → GH → List Ent → Prop := fun v h' L' => ∃ x Λ' L1, K.Q x Λ' ∧ Rp h' x v ∧ K.h0.le h' ∧ RpL h' Λ' L1 ∧ (L1 ++ K.F).Sublist L'
def AC.cfg (K : AC) : Cfg := ⟨K.P, K.S, K.w0, K.f, K.fn, K.n, K.R, K.ok, K.hfn⟩
structure A (K : AC) (k : List It) (E : AEnv) (Λ : List AEnt) : Prop where
  run : ∀ h e L, K.h0.le h → RpEnv h E e → RpL h Λ L → V K.cfg k e h (L ++ K.F)

/-! ### guards -/
def gmodeA (E : AEnv) (all : Array Oper) : Option (Nat × Bool) → Option (Option (Nat × Bool) × List (Nat × Bool))
  | none => some (none, [])
  | some (j, w) => match nthL all.toList j with
    | some o => match o.dst with
      | some t => some (some (t, w), chainK E.cs 6 (t, w))
      | none => none
    | none => none
def gyesA (E : AEnv) (all : Array Oper) : Option (Nat × Bool) → Option (List (Nat × Bool))
  | none => some []
  | some (j, w) => match nthL all.toList j with
    | some o => match o.dst with
      | some t => match lookA E.us t with
        | some (.v (.bool b)) => match b, w with
          | true, true => some [(t, w)]
          | false, false => some [(t, w)]
          | _, _ => none
        | _ => none
      | none => none
    | none => none
def gnoA (E : AEnv) (all : Array Oper) : Option (Nat × Bool) → Option Bool
  | none => none
  | some (j, w) => match nthL all.toList j with
    | some o => match o.dst with
      | some t => match lookA E.us t with
        | some (.v (.bool b)) => match b, w with
          | true, false => some true
          | false, true => some true
          | _, _ => none
        | _ => none
      | none => none
    | none => none
def AEnv.put (n : Nat) (m : Option (Nat × Bool)) (d : Option Nat) (v : AV) (e : AEnv) : Option AEnv :=
  match d with
  | none => some e
  | some d => match Nat.blt d n with
    | false => none
    | true => match freeK e.cs d with
      | false => none
      | true => match m with
        | none => some ⟨(d, v) :: e.us, e.cs⟩
        | some k => match lookA e.us d with
          | some _ => none
          | none => match Nat.beq k.1 d with
            | true => none
            | false => some ⟨e.us, (d, k, v) :: e.cs⟩
def okPutA (n : Nat) (e : AEnv) (d : Nat) : Bool := match Nat.blt d n with
  | true => freeK e.cs d
  | false => false
section
variable {h : GH} {E E' : AEnv} {e : Env} {all : Array Oper}
theorem gmodeA_eq (r : RpEnv h E e) (g : Option (Nat × Bool)) : gmodeA E all g = gmode e all g := by
  cases g with
  | none => rfl
  | some x =>
    obtain ⟨j, w⟩ := x
    simp only [gmodeA, gmode]
    cases nthL all.toList j with
    | none => rfl
    | some o =>
      simp only
      cases o.dst with
      | none => rfl
      | some t => simp only; rw [r.2.chain]
theorem gyesA_eq (r : RpEnv h E e) {g : Option (Nat × Bool)} {ks : List (Nat × Bool)} (hg : gyesA E all g = some ks) : gyes e all g = some ks := by
  cases g with
  | none => exact hg
  | some x =>
    obtain ⟨j, w⟩ := x
    simp only [gyesA] at hg
    simp only [gyes]
    split at hg
    · rename_i o ho
      simp only [ho]
      split at hg
      · rename_i t ht
        simp only [ht]
        split at hg
        · rename_i b hb
          rcases r.1.look t with ⟨x, v, e1, e2, e3⟩ | ⟨e1, e2⟩
          · rw [hb] at e1; injection e1 with e1; subst e1
            rw [Rp_v] at e3; rw [e3.1] at e2
            simp only [e2]
            exact hg
          · rw [hb] at e1; cases e1
        · cases hg
      · cases hg
    · cases hg
theorem gnoA_eq (r : RpEnv h E e) {g : Option (Nat × Bool)} {x : Bool} (hg : gnoA E all g = some x) : gno e all g = some x := by
  cases g with
  | none => cases hg
  | some y =>
    obtain ⟨j, w⟩ := y
    simp only [gnoA] at hg
    simp only [gno]
    split at hg
    · rename_i o ho
      simp only [ho]
      split at hg
      · rename_i t ht
        simp only [ht]
        split at hg
        · rename_i b hb
          rcases r.1.look t with ⟨x, v, e1, e2, e3⟩ | ⟨e1, e2⟩
          · rw [hb] at e1; injection e1 with e1; subst e1
            rw [Rp_v] at e3; rw [e3.1] at e2
            simp only [e2]
            exact hg
          · rw [hb] at e1; cases e1
        · cases hg
      · cases hg
    · cases hg
theorem putA_eq (r : RpEnv h E e) {n : Nat} {m : Option (Nat × Bool)} {d : Option Nat} {x : AV} (hp : E.put n m d x = some E') {y : Value} (q : Rp h x y) : ∃ e', e.put n m d y = some e' ∧ RpEnv h E' e' := by
  cases d with
  | none => injection hp with hp; subst hp; exact ⟨e, rfl, r⟩
  | some d =>
    simp only [AEnv.put] at hp
    simp only [Env.put]
    split at hp
    · cases hp
    · rename_i hlt
      simp only [hlt]
      split at hp
      · cases hp
      · rename_i hf
        rw [r.2.free] at hf
        simp only [hf]
        split at hp
        · injection hp with hp; subst hp
          exact ⟨_, rfl, ⟨y, e.us, rfl, q, r.1⟩, r.2⟩
        · rename_i k
          rcases r.1.look d with ⟨x', v, e1, e2, e3⟩ | ⟨e1, e2⟩
          · rw [e1] at hp; cases hp
          · rw [e1] at hp; rw [e2]
            simp only at hp ⊢
            split at hp
            · cases hp
            · rename_i hk
              simp only [hk]
              injection hp with hp; subst hp
              exact ⟨_, rfl, r.1, ⟨y, e.cs, rfl, q, r.2⟩⟩
theorem okPutA_eq (r : RpEnv h E e) {n d : Nat} (hp : okPutA n E d = true) : okPut n e d = true := by
  unfold okPutA at hp
  unfold okPut
  split at hp
  · rename_i hlt; simp only [hlt]; rw [← r.2.free]; exact hp
  · cases hp
end

/-! ### one operation -/
def pickA (gs : Ua) (E : AEnv) (ks : List (Nat × Bool)) (t : Nat) (x y : Operand) : Option AV := match E.ev gs ks (.tmp t) with
  | some (.v (.bool g)) => match E.ev gs (chainK E.cs 6 (t, true) ++ ks) x with
    | some (.v (.bool p)) => match E.ev gs (chainK E.cs 6 (t, false) ++ ks) y with
      | some (.v (.bool q)) => some (.v (.bool (bif g then p else q)))
      | _ => none
    | _ => none
  | _ => none
def loadA (S : TT) (t : TypeId) : AV → Option AV
  | .pe sz x => match S.get t with
    | some ti => match Nat.beq sz ti.size with
      | true => match ti.agg with
        | true => match x with
          | .ag l => some (.ag l)
          | _ => none
        | false => match x.one with
          | true => some x
          | false => none
      | false => none
    | none => none
  | _ => none
def apve (S : TT) (gs : Ua) (E : AEnv) (ks : List (Nat × Bool)) (op : Op) : Option AV := match op with
  | .pick (.tmp t) x y => pickA gs E ks t x y
  | .load t p => match E.ev gs ks p with
    | some x => loadA S t x
    | none => none
  | op => apv S (E.ev gs ks) op

theorem run_apve {P : Program} {S : TT} {gs : Ua} {h : GH} {L : List Ent} {w0 : World} {n : Nat} {E : AEnv} {e : Env} {ks : List (Nat × Bool)} (hS : S.Ok P) (hgs : GsOk h gs) (r : RpEnv h E e) {o : Oper} {x : AV}
    (hx : apve S gs E ks o.op = some x) : ∃ y, Rp h x y ∧ ∀ a w, Ag n e a → St w0 h L w → keysOk a ks → (execOp a.eval o).run P w = .ok (.value y) w := by
  unfold apve at hx
  split at hx
  · rename_i t u v hop
    unfold pickA at hx
    split at hx
    · rename_i b hb
      split at hx
      · rename_i p hp
        split at hx
        · rename_i q hq
          injection hx with hx; subst hx
          obtain ⟨y1, e1, f1⟩ := r.ev hgs ks hb
          obtain ⟨y2, e2, f2⟩ := r.ev hgs _ hp
          obtain ⟨y3, e3, f3⟩ := r.ev hgs _ hq
          rw [Rp_v] at f1 f2 f3
          rw [f1.1] at e1; rw [f2.1, r.2.chain] at e2; rw [f3.1, r.2.chain] at e3
          refine ⟨_, Rp_v.2 ⟨rfl, rfl⟩, fun a w g s hk => run_pve hS g hk ?_⟩
          rw [hop]
          simp only [pve, pickv, e1, e2, e3]
        · cases hx
      · cases hx
    · cases hx
  · rename_i t p hop
    split at hx
    · rename_i z hz
      unfold loadA at hx
      split at hx
      · rename_i sz u
        split at hx
        · rename_i ti ht
          split at hx
          · rename_i hsz
            have hsz := Nat.eq_of_beq_eq_true hsz
            obtain ⟨y1, e1, f1⟩ := r.ev hgs ks hz
            rw [Rp_pe] at f1
            obtain ⟨b, off, zz, rfl, f1, f2, f3⟩ := f1
            have okt := TT.Ok.get hS ht
            split at hx
            · rename_i ha
              split at hx
              · injection hx with hx; subst hx
                have f1' := f1
                rw [Rp_ag] at f1
                obtain ⟨cs, rfl, f1⟩ := f1
                refine ⟨_, f1', fun a w g s hk => ?_⟩
                have := run_loadAt_agg (P := P) (w := w) okt ha (b := b) (o := off) (vs := cs) (fun i v hv => s.imm _ _ _ (f3 i v hv)) (by rw [← hsz]; exact f2)
                unfold execOp; rw [hop]
                simp [g.ev hk e1, this]
              · cases hx
            · rename_i ha
              split at hx
              · rename_i ho
                injection hx with hx; subst hx
                have hc := cellsL_one (f1.one ho)
                refine ⟨_, f1, fun a w g s hk => ?_⟩
                have h3 : h b off = some zz := by have := f3 0 zz (by rw [hc]; rfl); simpa using this
                have := run_loadAt_one (P := P) (w := w) okt ha (b := b) (o := off) (v := zz) (s.imm _ _ _ h3)
                unfold execOp; rw [hop]
                simp [g.ev hk e1, this]
              · cases hx
          · cases hx
        · cases hx
      · cases hx
    · cases hx
  · rename_i h1 h2
    obtain ⟨y, e1, e2⟩ := apv_rp (σ := e.ev ks) (fun z x hz => r.ev hgs ks hz) hx
    refine ⟨y, e2, fun a w g s hk => run_pve hS g hk ?_⟩
    unfold pve
    split
    · rename_i t u v hop; exact (h1 _ _ _ hop).elim
    · exact e1

section
variable {K : AC} {k : List It} {E : AEnv} {Λ : List AEnt}

theorem A.value {all : Array Oper} {o : Oper} {l : List Oper} {m : Option (Nat × Bool)} {ks : List (Nat × Bool)} {x : AV} {E' : AEnv} (hg : gmodeA E all o.guard = some (m, ks))
    (hr : ∀ h e L, K.h0.le h → RpEnv h E e → RpL h Λ L → ∃ y, Rp h x y ∧ ∀ a w, Ag K.n e a → St K.w0 h (L ++ K.F) w → keysOk a ks → (execOp a.eval o).run K.P w = .ok (.value y) w)
    (hp : E.put K.n m o.dst x = some E') (next : A K (.ops all l :: k) E' Λ) : A K (.ops all (o :: l) :: k) E Λ := by
  refine ⟨fun h e L hl r q => ?_⟩
  obtain ⟨y, e1, e2⟩ := hr h e L hl r q
  rw [gmodeA_eq r] at hg
  obtain ⟨e', e3, e4⟩ := putA_eq r hp e1
  exact V.value hg e2 e3 (next.run h e' L hl e4 q)
theorem A.valueY {all : Array Oper} {o : Oper} {l : List Oper} {ks : List (Nat × Bool)} {x : AV} {E' : AEnv} (hg : gyesA E all o.guard = some ks)
    (hr : ∀ h e L, K.h0.le h → RpEnv h E e → RpL h Λ L → ∃ y, Rp h x y ∧ ∀ a w, Ag K.n e a → St K.w0 h (L ++ K.F) w → keysOk a ks → (execOp a.eval o).run K.P w = .ok (.value y) w)
    (hp : E.put K.n none o.dst x = some E') (next : A K (.ops all l :: k) E' Λ) : A K (.ops all (o :: l) :: k) E Λ := by
  refine ⟨fun h e L hl r q => ?_⟩
  obtain ⟨y, e1, e2⟩ := hr h e L hl r q
  obtain ⟨e', e3, e4⟩ := putA_eq r hp e1
  exact V.valueY (gyesA_eq r hg) e2 e3 (next.run h e' L hl e4 q)

def astep (S : TT) (gs : Ua) (n : Nat) (k : List It) (E : AEnv) : Option (List It × AEnv) :=
  match k with
  | .ops all [] :: k => some (k, ⟨E.us, []⟩)
  | .ops all (o :: l) :: k => match gmodeA E all o.guard with
    | some (m, ks) => match apve S gs E ks o.op with
      | some v => match E.put n m o.dst v with
        | some E' => some (.ops all l :: k, E')
        | none => none
      | none => none
    | none => none
  | k => match cstep k with
    | some k' => some (k', E)
    | none => none
def astepY (S : TT) (gs : Ua) (n : Nat) (k : List It) (E : AEnv) : Option (List It × AEnv) :=
  match k with
  | .ops all [] :: k => some (k, ⟨E.us, []⟩)
  | .ops all (o :: l) :: k => match gyesA E all o.guard with
    | some ks => match apve S gs E ks o.op with
      | some v => match E.put n none o.dst v with
        | some E' => some (.ops all l :: k, E')
        | none => none
      | none => none
    | none => none
  | k => match cstep k with
    | some k' => some (k', E)
    | none => none
theorem A.opsNil {all : Array Oper} (hv : A K k ⟨E.us, []⟩ Λ) : A K (.ops all [] :: k) E Λ := ⟨fun h e L hl r q => V.opsNil (hv.run h ⟨e.us, []⟩ L hl ⟨r.1, rfl⟩ q)⟩
theorem A.cstep {k' : List It} (hc : Go.Tp.cstep k = some k') (hv : A K k' E Λ) : A K k E Λ := ⟨fun h e L hl r q => V.cstep hc (hv.run h e L hl r q)⟩
theorem A.step {k' : List It} {E' : AEnv} (hs : astep K.S K.gs K.n k E = some (k', E')) (hv : A K k' E' Λ) : A K k E Λ := by
  unfold astep at hs
  split at hs
  · injection hs with hs; injection hs with h1 h2; subst h1; subst h2
    exact A.opsNil hv
  · split at hs
    · rename_i m ks hg
      split at hs
      · rename_i v hpv
        split at hs
        · rename_i e'' hput
          injection hs with hs; injection hs with h1 h2; subst h1; subst h2
          exact A.value hg (fun h e L hl r q => run_apve K.ok (K.hgs.mono hl) r hpv) hput hv
        · cases hs
      · cases hs
    · cases hs
  · split at hs
    · rename_i k'' hc
      injection hs with hs; injection hs with h1 h2; subst h1; subst h2
      exact A.cstep hc hv
    · cases hs
theorem A.stepY {k' : List It} {E' : AEnv} (hs : astepY K.S K.gs K.n k E = some (k', E')) (hv : A K k' E' Λ) : A K k E Λ := by
  unfold astepY at hs
  split at hs
  · injection hs with hs; injection hs with h1 h2; subst h1; subst h2
    exact A.opsNil hv
  · split at hs
    · rename_i ks hg
      split at hs
      · rename_i v hpv
        split at hs
        · rename_i e'' hput
          injection hs with hs; injection hs with h1 h2; subst h1; subst h2
          exact A.valueY hg (fun h e L hl r q => run_apve K.ok (K.hgs.mono hl) r hpv) hput hv
        · cases hs
      · cases hs
    · cases hs
  · split at hs
    · rename_i k'' hc
      injection hs with hs; injection hs with h1 h2; subst h1; subst h2
      exact A.cstep hc hv
    · cases hs

/-! ### control -/
theorem A.cond {c : Operand} {x y : Code} {g : Bool} (hc : E.ev K.gs [] c = some (.v (.bool g))) (ht : g = true → A K (.code x :: k) E Λ) (hf : g = false → A K (.code y :: k) E Λ) : A K (.code (.cond c x y) :: k) E Λ := by
  refine ⟨fun h e L hl r q => ?_⟩
  obtain ⟨v, e1, e2⟩ := r.ev (K.hgs.mono hl) [] hc
  rw [Rp_v] at e2; rw [e2.1] at e1
  exact V.cond e1 (fun hg => (ht hg).run h e L hl r q) (fun hg => (hf hg).run h e L hl r q)
theorem A.condT {c : Operand} {x y : Code} (hc : E.ev K.gs [] c = some (.v (.bool true))) (next : A K (.code x :: k) E Λ) : A K (.code (.cond c x y) :: k) E Λ := A.cond hc (fun _ => next) (fun h => by cases h)
theorem A.condF {c : Operand} {x y : Code} (hc : E.ev K.gs [] c = some (.v (.bool false))) (next : A K (.code y :: k) E Λ) : A K (.code (.cond c x y) :: k) E Λ := A.cond hc (fun h => by cases h) (fun _ => next)

theorem RpU.put {h : GH} {U : Ua} {us : Us} (r : RpU h U us) {t : Nat} {x : AV} {v : Value} (q : Rp h x v) : RpU h ((t, x) :: U) ((t, v) :: us) := ⟨v, us, rfl, q, r⟩
/-- a slot's value, told otherwise -/
theorem A.val (t : Nat) {x x' : AV} (hx : lookA E.us t = some x) (hs : Sb x x') (next : A K k ⟨(t, x') :: E.us, E.cs⟩ Λ) : A K k E Λ := by
  refine ⟨fun h e L hl r q => ?_⟩
  rcases r.1.look t with ⟨y, v, e1, e2, e3⟩ | ⟨e1, e2⟩
  · rw [hx] at e1; injection e1 with e1; subst e1
    exact V.val t e2 rfl (next.run h ⟨(t, v) :: e.us, e.cs⟩ L hl ⟨r.1.put (hs.rp e3), r.2⟩ q)
  · rw [hx] at e1; cases e1
theorem A.valE (t : Nat) {x x' : AV} (hx : lookA E.us t = some x) (hs : x = x') (next : A K k ⟨(t, x') :: E.us, E.cs⟩ Λ) : A K k E Λ := A.val t hx (by subst hs; exact .refl) next
/-- part on a slot's truth value -/
theorem A.split (t : Nat) {g : Bool} (hx : lookA E.us t = some (.v (.bool g))) (ht : g = true → A K k ⟨(t, .v (.bool true)) :: E.us, E.cs⟩ Λ) (hf : g = false → A K k ⟨(t, .v (.bool false)) :: E.us, E.cs⟩ Λ) : A K k E Λ := by
  cases g
  · exact A.val t hx .refl (hf rfl)
  · exact A.val t hx .refl (ht rfl)
theorem A.skip {all : Array Oper} {o : Oper} {l : List Oper} {x : Bool} {E' : AEnv} (hg : gnoA E all o.guard = some x) (hp : E.put K.n none o.dst (.tp []) = some E') (hv : A K (.ops all l :: k) E' Λ) : A K (.ops all (o :: l) :: k) E Λ := by
  refine ⟨fun h e L hl r q => ?_⟩
  obtain ⟨e', e3, e4⟩ := putA_eq r hp (y := undef) (Rp_tp.2 ⟨[], rfl, RpC_nil.2 rfl⟩)
  exact V.skip (gnoA_eq r hg) e3 (hv.run h e' L hl e4 q)
theorem A.skipU {all : Array Oper} {o : Oper} {l : List Oper} {t : Nat} {b : Bool} {ks : List (Nat × Bool)} {E' : AEnv} (hg : gmodeA E all o.guard = some (some (t, b), ks)) (hx : lookA E.us t = some (.tp [])) (hp : E.put K.n none o.dst (.tp []) = some E')
    (hv : A K (.ops all l :: k) E' Λ) : A K (.ops all (o :: l) :: k) E Λ := by
  refine ⟨fun h e L hl r q => ?_⟩
  rw [gmodeA_eq r] at hg
  obtain ⟨e', e3, e4⟩ := putA_eq r hp (y := undef) (Rp_tp.2 ⟨[], rfl, RpC_nil.2 rfl⟩)
  rcases r.1.look t with ⟨y, v, e1, e2, e5⟩ | ⟨e1, e2⟩
  · rw [hx] at e1; injection e1 with e1; subst e1
    rw [Rp_tp] at e5
    obtain ⟨cs, rfl, e5⟩ := e5
    rw [RpC_nil] at e5; subst e5
    exact V.skipU hg e2 e3 (hv.run h e' L hl e4 q)
  · rw [hx] at e1; cases e1
theorem A.pickT {all : Array Oper} {o : Oper} {l : List Oper} {m : Option (Nat × Bool)} {ks : List (Nat × Bool)} {c x y : Operand} {v : AV} {E' : AEnv} (hg : gmodeA E all o.guard = some (m, ks)) (ho : o.op = .pick c x y) (hc : E.ev K.gs ks c = some (.v (.bool true)))
    (hx : E.ev K.gs ks x = some v) (hp : E.put K.n m o.dst v = some E') (next : A K (.ops all l :: k) E' Λ) : A K (.ops all (o :: l) :: k) E Λ := by
  refine ⟨fun h e L hl r q => ?_⟩
  rw [gmodeA_eq r] at hg
  obtain ⟨v1, e1, f1⟩ := r.ev (K.hgs.mono hl) _ hc
  obtain ⟨v2, e2, f2⟩ := r.ev (K.hgs.mono hl) _ hx
  rw [Rp_v] at f1; rw [f1.1] at e1
  obtain ⟨e', e3, e4⟩ := putA_eq r hp f2
  exact V.pickT hg ho e1 e2 e3 (next.run h e' L hl e4 q)
theorem A.pickF {all : Array Oper} {o : Oper} {l : List Oper} {m : Option (Nat × Bool)} {ks : List (Nat × Bool)} {c x y : Operand} {v : AV} {E' : AEnv} (hg : gmodeA E all o.guard = some (m, ks)) (ho : o.op = .pick c x y) (hc : E.ev K.gs ks c = some (.v (.bool false)))
    (hx : E.ev K.gs ks y = some v) (hp : E.put K.n m o.dst v = some E') (next : A K (.ops all l :: k) E' Λ) : A K (.ops all (o :: l) :: k) E Λ := by
  refine ⟨fun h e L hl r q => ?_⟩
  rw [gmodeA_eq r] at hg
  obtain ⟨v1, e1, f1⟩ := r.ev (K.hgs.mono hl) _ hc
  obtain ⟨v2, e2, f2⟩ := r.ev (K.hgs.mono hl) _ hx
  rw [Rp_v] at f1; rw [f1.1] at e1
  obtain ⟨e', e3, e4⟩ := putA_eq r hp f2
  exact V.pickF hg ho e1 e2 e3 (next.run h e' L hl e4 q)

/-! ### fewer slots, other entries -/
def keepA (us : Ua) : List Nat → Option Ua
  | [] => some []
  | t :: r => match lookA us t with
    | some x => match keepA us r with
      | some l => some ((t, x) :: l)
      | none => none
    | none => none
theorem RpU.keep {h : GH} {U : Ua} {us : Us} (r : RpU h U us) : ∀ {ts : List Nat} {U' : Ua}, keepA U ts = some U' → ∃ us', RpU h U' us' ∧ ∀ (n : Nat) (e : Env), e.us = us → e.Sub us'
  | [], U', hk => by injection hk with hk; subst hk; exact ⟨[], rfl, fun _ _ _ => trivial⟩
  | t :: ts, U', hk => by
    simp only [keepA] at hk
    split at hk
    · rename_i x hx
      split at hk
      · rename_i l hl
        injection hk with hk; subst hk
        obtain ⟨us', g1, g2⟩ := RpU.keep r hl
        rcases r.look t with ⟨y, v, e1, e2, e3⟩ | ⟨e1, e2⟩
        · rw [hx] at e1; injection e1 with e1; subst e1
          exact ⟨(t, v) :: us', g1.put e3, fun n e he => ⟨by rw [he]; exact e2, g2 n e he⟩⟩
        · rw [hx] at e1; cases e1
      · cases hk
    · cases hk
/-- these slots alone -/
theorem A.keep (ts : List Nat) {U : Ua} (hk : keepA E.us ts = some U) (next : A K k ⟨U, []⟩ Λ) : A K k E Λ := by
  refine ⟨fun h e L hl r q => ?_⟩
  obtain ⟨us', g1, g2⟩ := r.1.keep hk
  exact V.sub (g2 0 e rfl) (next.run h ⟨us', []⟩ L hl ⟨g1, rfl⟩ q)
def subU (us : Ua) : Ua → Prop
  | [] => True
  | (t, x) :: r => (∃ y, lookA us t = some y ∧ Sb y x) ∧ subU us r
theorem RpU.sub {h : GH} {U : Ua} {us : Us} (r : RpU h U us) : ∀ {U' : Ua}, subU U U' → ∃ us', RpU h U' us' ∧ ∀ (n : Nat) (e : Env), e.us = us → e.Sub us'
  | [], _ => ⟨[], rfl, fun _ _ _ => trivial⟩
  | (t, x) :: U', ⟨⟨y, hy, hs⟩, hr⟩ => by
    obtain ⟨us', g1, g2⟩ := RpU.sub r hr
    rcases r.look t with ⟨z, v, e1, e2, e3⟩ | ⟨e1, e2⟩
    · rw [hy] at e1; injection e1 with e1; subst e1
      exact ⟨(t, v) :: us', g1.put (hs.rp e3), fun n e he => ⟨by rw [he]; exact e2, g2 n e he⟩⟩
    · rw [hy] at e1; cases e1
theorem A.sub {U : Ua} (hs : subU E.us U) (next : A K k ⟨U, []⟩ Λ) : A K k E Λ := by
  refine ⟨fun h e L hl r q => ?_⟩
  obtain ⟨us', g1, g2⟩ := r.1.sub hs
  exact V.sub (g2 0 e rfl) (next.run h ⟨us', []⟩ L hl ⟨g1, rfl⟩ q)
theorem V.less {C : Cfg} {e : Env} {h : GH} {L L' : List Ent} (hs : L'.Sublist L) (hv : V C k e h L') : V C k e h L := fun ho a w b cs g s hf hk => hv ho a w b cs g (s.sub hs) hf hk
theorem A.perm {Λ' : List AEnt} (p : Λ.Perm Λ') (next : A K k E Λ') : A K k E Λ := by
  refine ⟨fun h e L hl r q => ?_⟩
  obtain ⟨L', g1, g2⟩ := q.perm p
  exact V.perm (g2.append_right _) (next.run h e L' hl r g1)
theorem A.less {Λ' : List AEnt} (s : Λ'.Sublist Λ) (next : A K k E Λ') : A K k E Λ := by
  refine ⟨fun h e L hl r q => ?_⟩
  obtain ⟨L', g1, g2⟩ := q.sub s
  exact V.less (g2.append_right _) (next.run h e L' hl r g1)

/-! ### loops -/
theorem A.loop {c : Code} {ι : Type} (I : ι → AEnv × List AEnt) (μ : ι → Nat)
    (round : ∀ i, (∀ j, μ j < μ i → A K (.inLoop c :: k) (I j).1 (I j).2) → A K (.code c :: .inLoop c :: k) (I i).1 (I i).2)
    (i : ι) (he : I i = (E, Λ)) : A K (.code (.loop c) :: k) E Λ := by
  have key : ∀ m i, μ i = m → A K (.code c :: .inLoop c :: k) (I i).1 (I i).2 := by
    intro m
    induction m using Nat.strongRecOn with
    | _ m ih =>
      intro i hi
      refine round i fun j hj => ?_
      refine ⟨fun h e L hl r q => ?_⟩
      exact V.again ((ih (μ j) (hi ▸ hj) j rfl).run h e L hl r q)
  have := key (μ i) i rfl
  rw [he] at this
  exact ⟨fun h e L hl r q => V.loop1 (this.run h e L hl r q)⟩
theorem A.loop1 {c : Code} (hv : A K (.code c :: .inLoop c :: k) E Λ) : A K (.code (.loop c) :: k) E Λ := ⟨fun h e L hl r q => V.loop1 (hv.run h e L hl r q)⟩
theorem A.again {c : Code} (hv : A K (.code c :: .inLoop c :: k) E Λ) : A K (.inLoop c :: k) E Λ := ⟨fun h e L hl r q => V.again (hv.run h e L hl r q)⟩

/-! ### what is handed back -/
theorem A.ret1 {t : Nat} {x : AV} {Λ' : List AEnt} (hk : atEnd k = true) (hr : K.fn.results = #[.tmp t]) (hx : lookA E.us t = some x) (hs : Λ'.Sublist Λ) (hq : K.Q x Λ') : A K k E Λ := by
  refine ⟨fun h e L hl r q => ?_⟩
  rcases r.1.look t with ⟨y, v, e1, e2, e3⟩ | ⟨e1, e2⟩
  · rw [hx] at e1; injection e1 with e1; subst e1
    obtain ⟨L', g1, g2⟩ := q.sub hs
    exact V.ret1 hk hr e2 ⟨x, Λ', L', hq, e3, hl, g1, g2.append_right _⟩
  · rw [hx] at e1; cases e1
theorem A.ret0 {Λ' : List AEnt} (hk : atEnd k = true) (hr : K.fn.results = #[]) (hs : Λ'.Sublist Λ) (hq : K.Q (.tp []) Λ') : A K k E Λ := by
  refine ⟨fun h e L hl r q => ?_⟩
  obtain ⟨L', g1, g2⟩ := q.sub hs
  exact V.ret0 hk hr ⟨_, Λ', L', hq, Rp_tp.2 ⟨[], rfl, RpC_nil.2 rfl⟩, hl, g1, g2.append_right _⟩
theorem A.ret2 {t u : Nat} {x y : AV} {Λ' : List AEnt} (hk : atEnd k = true) (hr : K.fn.results = #[.tmp t, .tmp u]) (hx : lookA E.us t = some x) (hy : lookA E.us u = some y) (hs : Λ'.Sublist Λ) (hq : K.Q (.tp [x, y]) Λ') : A K k E Λ := by
  refine ⟨fun h e L hl r q => ?_⟩
  rcases r.1.look t with ⟨z, v, e1, e2, e3⟩ | ⟨e1, e2⟩
  · rcases r.1.look u with ⟨z', v', f1, f2, f3⟩ | ⟨f1, f2⟩
    · rw [hx] at e1; injection e1 with e1; subst e1
      rw [hy] at f1; injection f1 with f1; subst f1
      obtain ⟨L', g1, g2⟩ := q.sub hs
      exact V.ret2 hk hr e2 f2 ⟨_, Λ', L', hq, Rp_tp.2 ⟨[v, v'], rfl, RpC_cons.2 ⟨v, [v'], rfl, e3, RpC_cons.2 ⟨v', [], rfl, f3, RpC_nil.2 rfl⟩⟩⟩, hl, g1, g2.append_right _⟩
    · rw [hy] at f1; cases f1
  · rw [hx] at e1; cases e1
theorem A.ret3 {t u s : Nat} {x y z : AV} {Λ' : List AEnt} (hk : atEnd k = true) (hr : K.fn.results = #[.tmp t, .tmp u, .tmp s]) (hx : lookA E.us t = some x) (hy : lookA E.us u = some y) (hz : lookA E.us s = some z) (hs : Λ'.Sublist Λ) (hq : K.Q (.tp [x, y, z]) Λ') :
    A K k E Λ := by
  refine ⟨fun h e L hl r q => ?_⟩
  rcases r.1.look t with ⟨z1, v, e1, e2, e3⟩ | ⟨e1, e2⟩
  · rcases r.1.look u with ⟨z2, v', f1, f2, f3⟩ | ⟨f1, f2⟩
    · rcases r.1.look s with ⟨z3, v'', d1, d2, d3⟩ | ⟨d1, d2⟩
      · rw [hx] at e1; injection e1 with e1; subst e1
        rw [hy] at f1; injection f1 with f1; subst f1
        rw [hz] at d1; injection d1 with d1; subst d1
        obtain ⟨L', g1, g2⟩ := q.sub hs
        exact V.ret3 hk hr e2 f2 d2 ⟨_, Λ', L', hq, Rp_tp.2 ⟨[v, v', v''], rfl, RpC_cons.2 ⟨v, _, rfl, e3, RpC_cons.2 ⟨v', _, rfl, f3, RpC_cons.2 ⟨v'', [], rfl, d3, RpC_nil.2 rfl⟩⟩⟩⟩, hl, g1, g2.append_right _⟩
      · rw [hz] at d1; cases d1
    · rw [hy] at f1; cases f1
  · rw [hx] at e1; cases e1
end
end Go.Tp
