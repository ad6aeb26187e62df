/-
  Data: memory that a function owns is read, for one call, as memory that never changes, and owned again after it.
-/
import Derived.Test.YtbbainjecjdkmaaTqS
namespace Go.Tp
open Go
set_option linter.unusedVariables false
set_option linter.unusedSimpArgs false

def Ent.has (p : Ent) (b o : Nat) : Prop := p.b = b ∧ p.lo ≤ o ∧ o < p.lo + p.cs.length
open Classical in
noncomputable def GH.less (h : GH) (L : List Ent) : GH := fun b o => if ∃ p, p ∈ L ∧ p.has b o then none else h b o
def allAt (h : GH) (L : List Ent) : Prop := ∀ p, p ∈ L → atH h p.b p.lo p.cs
section
variable {w0 w w' : World} {h h' h'' : GH}
theorem St.publishL : ∀ {L1 L2 : List Ent} {h : GH}, St w0 h (L1 ++ L2) w → ∃ h', h.le h' ∧ St w0 h' L2 w ∧ allAt h' L1
  | [], L2, h, s => ⟨h, GH.le_refl _, s, fun p hp => by cases hp⟩
  | ⟨b, lo, cs, ob⟩ :: L1, L2, h, s => by
    obtain ⟨h', g1, g2, g3⟩ := St.publishL (L1 := L1) (L2 := L2) (St.publish (b := b) (lo := lo) (cs := cs) (ob := ob) s)
    refine ⟨h', GH.le_trans s.le_add g1, g2, fun p hp => ?_⟩
    rcases List.mem_cons.1 hp with rfl | hp
    · intro i v hv; exact g1 _ _ _ (GH.add_at h b lo _ hv)
    · exact g3 p hp
theorem has_at {p : Ent} {b o : Nat} (hp : p.has b o) : ∃ i, i < p.cs.length ∧ o = p.lo + i ∧ b = p.b := ⟨o - p.lo, by have := hp.2.1; have := hp.2.2; omega, by have := hp.2.1; omega, hp.1.symm⟩
theorem St.le_less {L1 L2 : List Ent} (s : St w0 h (L1 ++ L2) w) (hl : h.le h'') : h.le (h''.less L1) := by
  intro b o v hv
  unfold GH.less
  split
  · rename_i hx
    obtain ⟨p, hp, hh⟩ := hx
    obtain ⟨i, hi, rfl, rfl⟩ := has_at hh
    rw [(s.own p (List.mem_append_left _ hp)).fresh i hi] at hv; cases hv
  · exact hl _ _ _ hv
theorem St.unlend {L1 L2 L' : List Ent} (s : St w0 h (L1 ++ L2) w) (s' : St w0 h'' L' w') (ha : allAt h'' L1) (ho : ∀ p, p ∈ L1 → p.obj = none) : St w0 (h''.less L1) (L1 ++ L') w' := by
  have hless : ∀ b o v, h''.less L1 b o = some v → h'' b o = some v := by
    intro b o v hv
    unfold GH.less at hv
    split at hv
    · cases hv
    · exact hv
  refine ⟨s'.below, fun b o v hv => s'.imm _ _ _ (hless _ _ _ hv), fun b o v hv => s'.imm1 _ _ _ (hless _ _ _ hv), fun p hp => ?_, ?_, s'.frz⟩
  · rcases List.mem_append.1 hp with hp | hp
    · have k := s.own p (List.mem_append_left _ hp)
      refine ⟨k.one, fun i v hv => s'.imm _ _ _ (ha p hp i v hv), k.new, fun i hi => ?_, fun i hi => ?_, fun o hh => ?_⟩
      · rw [s'.frz, ← s.frz]; exact k.warm i hi
      · unfold GH.less; rw [if_pos ⟨p, hp, rfl, by omega, by omega⟩]
      · rw [ho p hp] at hh; cases hh
    · have k := s'.own p hp
      refine ⟨k.one, k.cell, k.new, k.warm, fun i hi => ?_, k.obj⟩
      unfold GH.less
      split
      · rfl
      · exact k.fresh i hi
  · have d := List.pairwise_append.1 s.dis
    refine List.pairwise_append.2 ⟨d.1, s'.dis, fun p hp q hq => ⟨fun i j hi hj hb hlo => ?_, fun hx => ?_⟩⟩
    · obtain ⟨v, hv⟩ := getElem?_some_of_lt hi
      have h1 := ha p hp i v hv
      rw [hb, hlo, (s'.own q hq).fresh j hj] at h1; cases h1
    · rw [ho p hp] at hx; cases hx
end

/-! ### an operation whose guard is a slot that was passed over -/
theorem WE.skipU {G : Rg} {π : List Nat} {e : Env} {h : GH} {E : Slots} {i : Nat} {o : Oper} {t : Nat} {b : Bool} {ks : List (Nat × Bool)} {e' : Env} (hi : nthL G.all.toList i = some o) (hg : gmode e G.all o.guard = some (some (t, b), ks)) (hl : look e.us t = some undef)
    (hp : e.put G.C.n none o.dst undef = some e') (next : WE G π e' h E) : WE G (i :: π) e h E := by
  intro a g
  refine ⟨o, by rw [nthL_eq, Array.getElem?_toList] at hi; exact hi, ?_⟩
  unfold Rg.Node
  have : onNow G.all o a = false := by
    cases hon : onNow G.all o a with
    | false => rfl
    | true =>
      rcases gmode_spec g hg with ⟨h1, _⟩ | ⟨t', b', h1, hiff, _⟩
      · cases h1
      · injection h1 with h1; injection h1 with h1 h2; subst h1; subst h2
        have := hiff.1 hon
        rw [g.us _ _ hl] at this
        injection this with this
        exact absurd this.symm (bool_ne_undef _)
  rw [this]
  exact next _ (g.put hp)
theorem WA.skipU {K : AC} {all : Array Oper} {m : Nat} {k : List It} {pubs : Nat → List Nat} {Y : Ua} {π : List Nat} {E : AEnv} {Λ : List AEnt} {D : Da} {i : Nat} {o : Oper} {t : Nat} {b : Bool} {ks : List (Nat × Bool)} {E' : AEnv} (hi : nthL all.toList i = some o)
    (hg : gmodeA E all o.guard = some (some (t, b), ks)) (hx : lookA E.us t = some (.tp [])) (hp : E.put K.n none o.dst (.tp []) = some E') (next : WA K all m k pubs Y π E' Λ D) : WA K all m k pubs Y (i :: π) E Λ D := by
  refine ⟨fun h e L Es hl r q d => ?_⟩
  rw [gmodeA_eq r] at hg
  obtain ⟨e', e3, e4⟩ := putA_eq r hp (y := undef) (Rp_tp.2 ⟨[], rfl, RpC_nil.2 rfl⟩)
  rcases r.1.look t with ⟨y, v, e1, e2, e5⟩ | ⟨e1, e2⟩
  · rw [hx] at e1; injection e1 with e1; subst e1
    rw [Rp_tp] at e5
    obtain ⟨cs, rfl, e5⟩ := e5
    rw [RpC_nil] at e5; subst e5
    exact WE.skipU (G := drawRg K.cfg all (L ++ K.F) pubs (YA Y) m k) hi hg e2 e3 (next.run h e' L Es hl e4 q d)
  · rw [hx] at e1; cases e1

/-! ### data that names no memory -/
mutual
def plainA : AV → Bool
  | .v _ => true
  | .tp l => plainL l
  | .ag l => plainL l
  | _ => false
def plainL : List AV → Bool
  | [] => true
  | x :: r => plainA x && plainL r
end
mutual
theorem plainA_rp {h h' : GH} : ∀ {x : AV} {v : Value}, plainA x = true → Rp h x v → Rp h' x v
  | .v _, _, _, r => by rw [Rp_v] at r ⊢; exact r
  | .tp l, _, hp, r => by
    rw [plainA] at hp
    rw [Rp_tp] at r ⊢
    obtain ⟨cs, h1, h2⟩ := r
    exact ⟨cs, h1, plainL_rp hp h2⟩
  | .ag l, _, hp, r => by
    rw [plainA] at hp
    rw [Rp_ag] at r ⊢
    obtain ⟨cs, h1, h2⟩ := r
    exact ⟨cs, h1, plainL_rp hp h2⟩
  | .sl _ _ _, _, hp, _ => by simp [plainA] at hp
  | .pe _ _, _, hp, _ => by simp [plainA] at hp
  | .fn _ _ _, _, hp, _ => by simp [plainA] at hp
  | .ms _ _ _, _, hp, _ => by simp [plainA] at hp
  | .ep _ _ _, _, hp, _ => by simp [plainA] at hp
  | .eb _ _, _, hp, _ => by simp [plainA] at hp
theorem plainL_rp {h h' : GH} : ∀ {x : List AV} {v : List Value}, plainL x = true → RpC h x v → RpC h' x v
  | [], _, _, r => by rw [RpC_nil] at r ⊢; exact r
  | x :: l, _, hp, r => by
    rw [plainL, Bool.and_eq_true] at hp
    rw [RpC_cons] at r ⊢
    obtain ⟨v, vs, h1, h2, h3⟩ := r
    exact ⟨v, vs, h1, plainA_rp hp.1 h2, plainL_rp hp.2 h3⟩
end

/-- with these entries read as memory that never changes, x stands for y -/
def Lt (Λ : List AEnt) (x y : AV) : Prop := ∀ h L h' v, RpL h Λ L → h.le h' → allAt h' L → Rp h x v → Rp h' y v
def LtL (Λ : List AEnt) (x y : List AV) : Prop := ∀ h L h' v, RpL h Λ L → h.le h' → allAt h' L → RpC h x v → RpC h' y v
theorem Lt.sub {Λ : List AEnt} {x y : AV} (s : Sb x y) : Lt Λ x y := fun h L h' v _ hl _ r => (s.rp r).mono hl
theorem LtL.nil {Λ : List AEnt} : LtL Λ [] [] := fun h L h' v _ hl _ r => r.mono hl
theorem LtL.cons {Λ : List AEnt} {x y : AV} {l r : List AV} (a : Lt Λ x y) (b : LtL Λ l r) : LtL Λ (x :: l) (y :: r) := fun h L h' v q hl ha p => by
  rw [RpC_cons] at p ⊢
  obtain ⟨u, us, h1, h2, h3⟩ := p
  exact ⟨u, us, h1, a h L h' u q hl ha h2, b h L h' us q hl ha h3⟩
theorem RpRow.frozenAt {h h' : GH} {sz : Nat} {z : Value} {l l' : List AV} {p : Ent} (q : RpRow h sz z l p) (hl : h.le h') (ha : atH h' p.b p.lo p.cs) (hc : ∀ zs, RpC h l zs → RpC h' l' zs) (hlen : l'.length = l.length) : Rp h' (.sl sz l' none) z := by
  obtain ⟨a, cap, zs, rfl, g2, g3, g4, g5⟩ := q
  rw [Rp_sl]
  refine ⟨a, cap, by rw [hlen], by rw [hlen]; exact g2, trivial, fun hn => ?_⟩
  rcases g5 with ⟨g5, _⟩ | ⟨b, o, sp, rfl, rfl, _⟩
  · exact (hn (List.length_eq_zero_iff.1 (by rw [hlen, g5]; rfl))).elim
  · exact ⟨b, o, rfl, RpE_of (hc _ g3.rp) g3.sz (atH.left ha)⟩
theorem RpRows.frozenAt {h h' : GH} {sz : Nat} (hl : h.le h') : ∀ {hs : List (Value × List AV)} {L : List Ent}, RpRows h sz hs L → allAt h' L → ∀ p, p ∈ hs → Rp h' (.sl sz p.2 none) p.1
  | [], _, _, _, p, hp => by cases hp
  | (z, l) :: r, _, ⟨q, L', rfl, h2, h3⟩, ha, p, hp => by
    rcases List.mem_cons.1 hp with rfl | hp
    · exact h2.frozenAt hl (ha q (List.mem_cons_self ..)) (fun zs r => r.mono hl) rfl
    · exact RpRows.frozenAt hl h3 (fun x hx => ha x (List.mem_cons_of_mem _ hx)) p hp
theorem allAt.left {h : GH} {L L' : List Ent} (a : allAt h (L ++ L')) : allAt h L := fun p hp => a p (List.mem_append_left _ hp)
theorem allAt.right {h : GH} {L L' : List Ent} (a : allAt h (L ++ L')) : allAt h L' := fun p hp => a p (List.mem_append_right _ hp)
theorem allAt.mem {h : GH} : ∀ {Λ : List AEnt} {L : List Ent} {h0 : GH}, RpL h0 Λ L → allAt h L → ∀ {x : AEnt}, x ∈ Λ → ∃ L1, RpEnt h0 x L1 ∧ allAt h L1 := fun {Λ L h0} r a {x} hx => by
  obtain ⟨L1, h1, h2⟩ := r.mem hx
  exact ⟨L1, h2, fun p hp => a p (h1 p hp)⟩
/-- one row -/
theorem Lt.row {Λ : List AEnt} {sz n : Nat} {z : Value} {l : List AV} (hm : AEnt.row sz z l ∈ Λ) : Lt Λ (.ms z sz n) (.sl sz l none) := fun h L h' v q hl ha r => by
  obtain ⟨L1, ⟨p, q1, rfl⟩, q2⟩ := allAt.mem q ha hm
  rw [Rp_ms] at r
  rw [r.1]
  exact q1.frozenAt hl (q2 p (List.mem_cons_self ..)) (fun zs r => r.mono hl) rfl
/-- a row of rows -/
theorem Lt.rows {Λ : List AEnt} {sz szo n : Nat} {z : Value} {hs : List (Value × List AV)} (h1 : AEnt.rows sz hs ∈ Λ) (h2 : AEnt.row szo z (msL sz hs) ∈ Λ) : Lt Λ (.ms z szo n) (.sl szo (slL sz hs) none) := fun h L h' v q hl ha r => by
  obtain ⟨L1, ⟨p, q1, rfl⟩, q2⟩ := allAt.mem q ha h2
  obtain ⟨L2, q3, q4⟩ := allAt.mem q ha h1
  have hr := RpRows.frozenAt hl q3 q4
  rw [Rp_ms] at r
  rw [r.1]
  exact q1.frozenAt hl (q2 p (List.mem_cons_self ..)) (fun zs r => ms_sl (r.mono hl) hr) (by rw [slL, msL, List.length_map, List.length_map])
theorem Tl.noobj {sz : Nat} {z : Value} {p : Ent} (q : Tl sz z p) : p.obj = none := q.1
theorem RpRows.noobj {h : GH} {sz : Nat} : ∀ {hs : List (Value × List AV)} {L : List Ent}, RpRows h sz hs L → ∀ p, p ∈ L → p.obj = none
  | [], _, r, p, hp => by have r : _ = [] := r; subst r; cases hp
  | (z, l) :: r, _, ⟨q, L', rfl, h2, h3⟩, p, hp => by
    rcases List.mem_cons.1 hp with rfl | hp
    · exact h2.choose_spec.choose_spec.choose_spec.2.2.2.1
    · exact RpRows.noobj h3 p hp
theorem RpEnt.noobj {h : GH} : ∀ {x : AEnt} {L : List Ent}, RpEnt h x L → ∀ p, p ∈ L → p.obj = none
  | .box b x, _, ⟨z, h1, rfl⟩, p, hp => by rcases List.mem_cons.1 hp with rfl | hp; rfl; cases hp
  | .row sz z l, _, ⟨q, h1, rfl⟩, p, hp => by
    rcases List.mem_cons.1 hp with rfl | hp
    · exact h1.choose_spec.choose_spec.choose_spec.2.2.2.1
    · cases hp
  | .rows sz hs, _, r, p, hp => RpRows.noobj r p hp
  | .tail sz z, _, ⟨q, h1, rfl⟩, p, hp => by
    rcases List.mem_cons.1 hp with rfl | hp
    · exact h1.noobj
    · cases hp
theorem RpL.noobj {h : GH} : ∀ {Λ : List AEnt} {L : List Ent}, RpL h Λ L → ∀ p, p ∈ L → p.obj = none
  | [], _, r, p, hp => by have r : _ = [] := r; subst r; cases hp
  | x :: Λ, _, ⟨L1, L2, rfl, h2, h3⟩, p, hp => by
    rcases List.mem_append.1 hp with hp | hp
    · exact h2.noobj p hp
    · exact RpL.noobj h3 p hp
theorem RpL.le {h h' : GH} (hl : h.le h') {Λ : List AEnt} {L : List Ent} (r : RpL h Λ L) : RpL h' Λ L := r.mono hl
/-- **a function that only computes, with owned memory lent to it** -/
theorem Fun.lend {P : Program} {gs : Ua} {f : FuncId} {args args' : List AV} {Λ : List AEnt} {Q : AV → Prop} {g : Func} {c : Code} (h1 : P.funcs[f]? = some g) (h2 : g.body = some c) (h3 : (g.name == "runtime.NumGoroutine") = false)
    (hf : Fun P gs f args [] fun y Λ' => Q y ∧ Λ' = []) (hQ : ∀ y, Q y → plainA y = true) (ha : LtL Λ args' args) : Fun P gs f args' Λ fun y Λ' => Q y ∧ Λ' = Λ := by
  intro w0 h vs L F hgs r q
  refine ⟨⟨g, c, h1, h2, h3⟩, fun w s => ?_⟩
  obtain ⟨h', g1, g2, g3⟩ := St.publishL s
  refine ((hf w0 h' vs [] F (hgs.mono g1) (ha h L h' vs q g1 g3 r) rfl).2 w g2).mono fun x w' ⟨v, h'', L', e1, ⟨y, Λ', L1, ⟨k1, k2⟩, k3, k4, k5, k6⟩, s'⟩ => ?_
  subst k2
  have k5 : L1 = [] := k5
  subst k5
  have k6 : L' = F := k6
  subst k6
  have hle := s.le_less (GH.le_trans g1 k4)
  exact ⟨v, h''.less L, L ++ L', e1, ⟨y, Λ, L, ⟨k1, rfl⟩, plainA_rp (hQ y k1) k3, hle, q.mono hle, rfl⟩, s.unlend s' (fun p hp => atH.mono k4 (g3 p hp)) q.noobj⟩
theorem Pure.lend {P : Program} {gs : Ua} {f : FuncId} {args args' : List AV} {Λ : List AEnt} {x : AV} {g : Func} {c : Code} (h1 : P.funcs[f]? = some g) (h2 : g.body = some c) (h3 : (g.name == "runtime.NumGoroutine") = false)
    (hf : Pure P gs f args x) (hx : plainA x = true) (ha : LtL Λ args' args) : Fun P gs f args' Λ fun y Λ' => y = x ∧ Λ' = Λ :=
  Fun.lend h1 h2 h3 hf (fun y hy => by rw [hy]; exact hx) ha
end Go.Tp
