/-
  Data: more rules: a call whose answer is one of a family.
-/
import Derived.Test.YtbbainjecjdkmaaTqG
namespace Go.Tp
open Go
set_option linter.unusedVariables false
variable {K : AC} {k : List It} {E : AEnv} {Λ : List AEnt}
/-- a function that hands back one of these -/
def FunE {ι : Type} (P : Program) (gs : Ua) (f : FuncId) (args : List AV) (Λ : List AEnt) (X : ι → AV) (LL : ι → List AEnt) (Pr : ι → Prop) : Prop := Fun P gs f args Λ fun x Λ' => ∃ i, Sb x (X i) ∧ Λ' = LL i ∧ Pr i
theorem A.callE {ι : Type} {X : ι → AV} {LL : ι → List AEnt} {Pr : ι → Prop} {all : Array Oper} {o : Oper} {l : List Oper} {ks : List (Nat × Bool)} {x : Operand} {args : Array Operand} {ts : Array TypeId} {f : FuncId} {fst cap vs args' : List AV} {Λ1 Λ2 : List AEnt} {d : Nat}
    (hg : gyesA E all o.guard = some ks) (ho : o.op = .call ⟨.value x, args, ts⟩) (hx : E.ev K.gs ks x = some (.fn f fst cap)) (ha : evsA (E.ev K.gs ks) args.toList = some vs)
    (hd : o.dst = some d) (hc : okPutA K.n E d = true) (hf : FunE K.P K.gs f args' Λ1 X LL Pr) (hs : SbL (fst ++ (vs ++ cap)) args') (hp : Λ.Perm (Λ1 ++ Λ2))
    (next : ∀ i, Pr i → A K (.ops all l :: k) ⟨(d, X i) :: E.us, E.cs⟩ (LL i ++ Λ2)) : A K (.ops all (o :: l) :: k) E Λ :=
  have hf' : Fun K.P K.gs f args' Λ1 fun x Λ' => ∃ i, x = X i ∧ Λ' = LL i ∧ Pr i := fun w0 h vs L F g r q =>
    (hf w0 h vs L F g r q).mono fun _ _ _ ⟨x, Λ', L1, ⟨i, e1, e2, e3⟩, q2, q3⟩ => ⟨X i, Λ', L1, ⟨i, rfl, e2, e3⟩, e1.rp q2, q3⟩
  A.call hg ho hx ha hd hc hf' hs hp fun y Λ' ⟨i, e1, e2, e3⟩ => by subst e1; subst e2; exact next i e3

/-! ### many rows -/
theorem A.entsEq {Λ' : List AEnt} (h : Λ = Λ') (next : A K k E Λ') : A K k E Λ := by subst h; exact next
theorem A.emptyRow (t : Nat) (sz : Nat) (hx : lookA E.us t = some (.v (.slice none 0 0))) (next : ∀ z, A K k ⟨(t, .ms z sz 0) :: E.us, E.cs⟩ (.row sz z [] :: Λ)) : A K k E Λ := by
  refine ⟨fun h e L hl r q => ?_⟩
  rcases r.1.look t with ⟨y, v, e1, e2, e3⟩ | ⟨e1, e2⟩
  · rw [hx] at e1; injection e1 with e1; subst e1
    rw [Rp_v] at e3
    have e4 := e3.1
    subst e4
    have hr0 : ∃ p, RpRow h sz (.slice none 0 0) [] p ∧ [(⟨0, 0, [], none⟩ : Ent)] = [p] := ⟨⟨0, 0, [], none⟩, ⟨none, 0, [], rfl, Nat.zero_le _, ⟨(by rw [RpC_nil]), (fun z hz => by cases hz), (fun z hz => by cases hz)⟩, rfl, .inl ⟨rfl, rfl, rfl, fun y hy => by cases hy⟩⟩, rfl⟩
    refine V.empty ?_
    refine V.val t e2 rfl ((next (.slice none 0 0)).run h ⟨(t, .slice none 0 0) :: e.us, e.cs⟩ (⟨0, 0, [], none⟩ :: L) hl ⟨r.1.put (Rp_ms.2 ⟨rfl, none, 0, rfl⟩), r.2⟩ (.one hr0 q))
  · rw [hx] at e1; cases e1
theorem A.rows0 (sz : Nat) (next : A K k E (.rows sz [] :: Λ)) : A K k E Λ := A.ents (Λ' := .rows sz [] :: Λ) (fun h L q => ⟨L, ⟨[], L, rfl, rfl, q⟩, .refl _⟩) next
theorem A.rowsIn {sz : Nat} {z : Value} {l : List AV} {hs : List (Value × List AV)} {Λ' : List AEnt} (hp : Λ.Perm (.row sz z l :: .rows sz hs :: Λ')) (next : A K k E (.rows sz (hs ++ [(z, l)]) :: Λ')) : A K k E Λ := by
  refine A.perm hp (A.ents (fun h L q => ?_) next)
  obtain ⟨L1, L2, rfl, ⟨p, q1, rfl⟩, ⟨L3, L4, rfl, q2, q3⟩⟩ := q
  refine ⟨(L3 ++ [p]) ++ L4, ⟨_, _, rfl, RpRows.append q2 ⟨p, [], rfl, q1, rfl⟩, q3⟩, ?_⟩
  rw [List.append_assoc]
  exact (List.perm_middle (l₁ := L3) (a := p) (l₂ := L4)).symm
theorem A.rowsOut (i : Nat) {sz : Nat} {z : Value} {l : List AV} {hs : List (Value × List AV)} {Λ' : List AEnt} (hi : hs[i]? = some (z, l)) (hp : Λ.Perm (.rows sz hs :: Λ')) (next : A K k E (.row sz z l :: .rows sz (hs.take i) :: .rows sz (hs.drop (i + 1)) :: Λ')) : A K k E Λ := by
  refine A.perm hp (A.ents (fun h L q => ?_) next)
  obtain ⟨L1, L2, rfl, q1, q2⟩ := q
  have hh : hs = hs.take i ++ (z, l) :: hs.drop (i + 1) := by
    obtain ⟨hlt, rfl'⟩ := List.getElem?_eq_some_iff.1 hi
    rw [← rfl', List.getElem_cons_drop, List.take_append_drop]
  have q1 : RpRows h sz hs L1 := q1
  rw [hh] at q1
  obtain ⟨L3, L4, rfl, g1, ⟨p, L5, rfl, g2, g3⟩⟩ := RpRows.split q1
  refine ⟨p :: (L3 ++ (L5 ++ L2)), ⟨[p], _, rfl, ⟨p, g2, rfl⟩, ⟨L3, _, rfl, g1, ⟨L5, L2, rfl, g3, q2⟩⟩⟩, ?_⟩
  rw [List.append_assoc]
  exact List.perm_middle
theorem A.rowsBack {sz : Nat} {z : Value} {l : List AV} {a b : List (Value × List AV)} {Λ' : List AEnt} (hp : Λ.Perm (.row sz z l :: .rows sz a :: .rows sz b :: Λ')) (next : A K k E (.rows sz (a ++ (z, l) :: b) :: Λ')) : A K k E Λ := by
  refine A.perm hp (A.ents (fun h L q => ?_) next)
  obtain ⟨L1, L2, rfl, ⟨p, q1, rfl⟩, ⟨L3, L4, rfl, q2, ⟨L5, L6, rfl, q3, q4⟩⟩⟩ := q
  refine ⟨(L3 ++ (p :: L5)) ++ L6, ⟨_, _, rfl, RpRows.append q2 ⟨p, L5, rfl, q1, q3⟩, q4⟩, ?_⟩
  rw [List.append_assoc]
  exact (List.perm_middle (l₁ := L3) (a := p) (l₂ := L5 ++ L6)).symm
/-- the elements of a slice of rows that are written, and of one of rows that are not -/
abbrev msL (sz : Nat) (hs : List (Value × List AV)) : List AV := hs.map fun p => .ms p.1 sz p.2.length
abbrev slL (sz : Nat) (hs : List (Value × List AV)) : List AV := hs.map fun p => .sl sz p.2 none
theorem RpRow.frozen {h : GH} {sz : Nat} {z : Value} {l : List AV} {p : Ent} (q : RpRow h sz z l p) (hle : h.le (h.add p.b p.lo p.cs)) : Rp (h.add p.b p.lo p.cs) (.sl sz l none) z := by
  obtain ⟨a, cap, zs, rfl, g2, g3, g4, g5⟩ := q
  rw [Rp_sl]
  refine ⟨a, cap, rfl, g2, trivial, fun hn => ?_⟩
  rcases g5 with ⟨g5, _⟩ | ⟨b, o, sp, rfl, rfl, _⟩
  · exact (hn g5).elim
  · exact ⟨b, o, rfl, RpE_of (g3.rp.mono hle) g3.sz (atH.left fun i u hu => GH.add_at h b o _ hu)⟩
theorem V.publishRows {C : Cfg} {e : Env} {sz : Nat} {L2 : List Ent} : ∀ {hs : List (Value × List AV)} {L1 : List Ent} {h : GH}, RpRows h sz hs L1 →
    (∀ h', h.le h' → (∀ p, p ∈ hs → Rp h' (.sl sz p.2 none) p.1) → V C k e h' L2) → V C k e h (L1 ++ L2)
  | [], L1, h, q, hv => by
    have q : L1 = [] := q
    subst q; exact hv h (GH.le_refl _) fun p hp => by cases hp
  | (z, l) :: r, _, h, ⟨⟨b, lo, cs, obj⟩, L', rfl, q1, q2⟩, hv => by
    have ho : obj = none := q1.choose_spec.choose_spec.choose_spec.2.2.2.1
    subst ho
    refine V.publish fun hle => ?_
    refine V.publishRows (q2.mono hle) fun h' hl' hr => hv h' (GH.le_trans hle hl') fun p hp => ?_
    rcases List.mem_cons.1 hp with rfl | hp
    · exact (q1.frozen hle).mono hl'
    · exact hr p hp
theorem ms_sl {h : GH} {sz : Nat} : ∀ {hs : List (Value × List AV)} {zs : List Value}, RpC h (msL sz hs) zs → (∀ p, p ∈ hs → Rp h (.sl sz p.2 none) p.1) → RpC h (slL sz hs) zs
  | [], zs, q, _ => q
  | (z, l) :: r, zs, q, hr => by
    rw [msL, List.map_cons, RpC_cons] at q
    obtain ⟨v, vs, rfl, q1, q2⟩ := q
    rw [Rp_ms] at q1
    rw [slL, List.map_cons, RpC_cons]
    refine ⟨v, vs, rfl, ?_, ms_sl q2 fun p hp => hr p (List.mem_cons_of_mem _ hp)⟩
    rw [q1.1]; exact hr (z, l) (List.mem_cons_self ..)
/-- a slice of rows that are written no more -/
theorem A.freezeRows (t : Nat) {z : Value} {szo sz sz' n : Nat} {hs : List (Value × List AV)} {Λ' : List AEnt} (hx : lookA E.us t = some (.ms z sz' n)) (hp : Λ.Perm (.rows sz hs :: .row szo z (msL sz hs) :: Λ'))
    (next : A K k ⟨(t, .sl szo (slL sz hs) none) :: E.us, E.cs⟩ Λ') : A K k E Λ := by
  refine A.perm hp ⟨fun h e L hl r q => ?_⟩
  rcases r.1.look t with ⟨y, v, e1, e2, e3⟩ | ⟨e1, e2⟩
  · rw [hx] at e1; injection e1 with e1; subst e1
    rw [Rp_ms] at e3
    obtain ⟨rfl, _⟩ := e3
    obtain ⟨L1, L2, rfl, q1, ⟨M, L3, rfl, ⟨p, q3, rfl⟩, q4⟩⟩ := q
    rw [List.append_assoc]
    refine V.publishRows q1 fun h1 hl1 hr => ?_
    obtain ⟨a, cap, zs, rfl, g2, g3, g4, g5⟩ := q3
    obtain ⟨pb, plo, pcs, pobj⟩ := p
    simp only at g4; subst g4
    have hll : (slL sz hs).length = (msL sz hs).length := by rw [slL, msL, List.length_map, List.length_map]
    have q5 : RpRow h1 szo (.slice a (msL sz hs).length cap) (slL sz hs) ⟨pb, plo, pcs, none⟩ := by
      refine ⟨a, cap, zs, by rw [hll], by rw [hll]; exact g2, ⟨ms_sl (g3.rp.mono hl1) hr, g3.sz, g3.one⟩, rfl, ?_⟩
      rcases g5 with ⟨g5, g6⟩ | g5
      · exact .inl ⟨List.length_eq_zero_iff.1 (by rw [hll, g5]; rfl), g6⟩
      · rw [hll]; exact .inr g5
    refine V.publish fun hle => ?_
    exact V.val t e2 rfl (next.run _ ⟨(t, _) :: e.us, e.cs⟩ L3 (GH.le_trans hl (GH.le_trans hl1 hle)) ⟨(r.1.mono (GH.le_trans hl1 hle)).put (q5.frozen hle), r.2.mono (GH.le_trans hl1 hle)⟩ (q4.mono (GH.le_trans hl1 hle)))
  · rw [hx] at e1; cases e1
end Go.Tp
