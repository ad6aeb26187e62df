/-
  Data: a function whose fresh slice of rows is written no more only computes.
-/
import Derived.Test.YtbbainjecjdkmaaTqP
namespace Go.Tp
open Go
set_option linter.unusedVariables false
theorem St.publishRows {w0 w : World} {sz : Nat} {L2 : List Ent} : ∀ {hs : List (Value × List AV)} {L1 : List Ent} {h : GH}, RpRows h sz hs L1 → St w0 h (L1 ++ L2) w →
    ∃ h', h.le h' ∧ St w0 h' L2 w ∧ ∀ p, p ∈ hs → Rp h' (.sl sz p.2 none) p.1
  | [], L1, h, q, s => by
    have q : L1 = [] := q
    subst q; exact ⟨h, GH.le_refl _, s, fun p hp => by cases hp⟩
  | (z, l) :: r, _, h, ⟨⟨b, lo, cs, obj⟩, L', rfl, q1, q2⟩, s => by
    obtain ⟨h', g1, g2, g3⟩ := St.publishRows (q2.mono s.le_add) s.publish
    refine ⟨h', GH.le_trans s.le_add g1, g2, fun p hp => ?_⟩
    rcases List.mem_cons.1 hp with rfl | hp
    · exact (q1.frozen s.le_add).mono g1
    · exact g3 p hp
theorem Fun.rows {P : Program} {gs : Ua} {f : FuncId} {args : List AV} {l : List AV} {sz szo : Nat}
    (hf : Fun P gs f args [] fun x Λ' => ∃ z hs n, Sb x (.ms z szo n) ∧ Λ' = [.rows sz hs, .row szo z (msL sz hs)] ∧ slL sz hs = l) : Pure P gs f args (.sl szo l none) := by
  intro w0 h vs L F g r q
  have hd := hf w0 h vs L F g r q
  refine ⟨hd.1, fun w s => (hd.2 w s).mono fun _ w2 ⟨v, h', L', e1, ⟨x, Λ', L1, ⟨z, hs, n, q1, q2, q3⟩, e2, e3, e4, e5⟩, s'⟩ => ?_⟩
  subst q2; subst q3; subst e5
  obtain ⟨M1, L2, rfl, m1, ⟨M2, L3, rfl, ⟨p, m2, rfl⟩, m3⟩⟩ := e4
  have m3 : L3 = [] := m3
  subst m3
  have hz := (Rp_ms.1 (q1.rp e2)).1
  subst hz
  rw [List.append_assoc] at s'
  obtain ⟨h1, g1, g2, g3⟩ := St.publishRows m1 s'
  obtain ⟨a, cap, zs, rfl, k2, k3, k4, k5⟩ := m2
  obtain ⟨pb, plo, pcs, pobj⟩ := p
  simp only at k4; subst k4
  have hll : (slL sz hs).length = (msL sz hs).length := by rw [slL, msL, List.length_map, List.length_map]
  have q5 : RpRow h1 szo (.slice a (msL sz hs).length cap) (slL sz hs) ⟨pb, plo, pcs, none⟩ := by
    refine ⟨a, cap, zs, by rw [hll], by rw [hll]; exact k2, ⟨ms_sl (k3.rp.mono g1) g3, k3.sz, k3.one⟩, rfl, ?_⟩
    rcases k5 with ⟨k5, k6⟩ | k5
    · exact .inl ⟨List.length_eq_zero_iff.1 (by rw [hll, k5]; rfl), k6⟩
    · rw [hll]; exact .inr k5
  have g2 : St w0 h1 (⟨pb, plo, pcs, none⟩ :: F) w2 := by simpa using g2
  refine ⟨_, _, F, e1, ⟨_, [], [], ⟨rfl, rfl⟩, q5.frozen g2.le_add, GH.le_trans e3 (GH.le_trans g1 g2.le_add), rfl, rfl⟩, g2.publish⟩
theorem A.nilTail {K : AC} {k : List It} {E : AEnv} {Λ : List AEnt} (t sz : Nat) (hx : lookA E.us t = some (.v (.slice none 0 0))) (next : A K k ⟨(t, .sl sz [] (some (.slice none 0 0))) :: E.us, E.cs⟩ (.tail sz (.slice none 0 0) :: Λ)) : A K k E Λ := by
  refine ⟨fun h e L hl r q => ?_⟩
  rcases r.1.look t with ⟨y, v, e1, e2, e3⟩ | ⟨e1, e2⟩
  · rw [hx] at e1; injection e1 with e1; subst e1
    rw [Rp_v] at e3
    have e4 := e3.1
    subst e4
    have hr0 : ∃ p, Tl sz (.slice none 0 0) p ∧ [(⟨0, 0, [], none⟩ : Ent)] = [p] := ⟨_, Tl.nil sz, rfl⟩
    refine V.empty ?_
    refine V.val t e2 rfl (next.run h ⟨(t, .slice none 0 0) :: e.us, e.cs⟩ (⟨0, 0, [], none⟩ :: L) hl ⟨r.1.put (Rp_sl.2 ⟨none, 0, rfl, Nat.le_refl _, rfl, fun hn => (hn rfl).elim⟩), r.2⟩ (.one hr0 q))
  · rw [hx] at e1; cases e1
end Go.Tp
