/-
  This project's own program logic, part Le (Tq3): generic texts, for any program. Conditions: as each theorem says.
-/
import Derived.Test.YtgmeahcclogfmaaDoorLd
import Derived.Laws.BytesString
/-! Tq3 -/
namespace Go.Tp
open Go Go.RowKit
set_option linter.unusedVariables false
set_option linter.unusedSimpArgs false
section
variable {K : AC} {k : List It} {E : AEnv} {Λ : List AEnt}
theorem A.fullTail (sz n : Nat) (a : Option Addr) (ha : a = none → n = 0) (hs : ∀ x, a = some x → x.spot = none) (next : A K k E (.tail sz (.slice a n n) :: Λ)) : A K k E Λ :=
  ⟨fun h e L hl r q => by
    obtain ⟨p, h1, h2, h3⟩ := Tl.full sz n a ha hs
    exact V.hollow (C := K.cfg) p h2 h3 (next.run h e (p :: L) hl r (.one ⟨p, h1, rfl⟩ q))⟩
theorem A.boxAs {b : Nat} {x x' : AV} {Λ' : List AEnt} (hp : Λ.Perm (.box b x :: Λ')) (hx : ∀ (h : GH) y, Rp h x y → Rp h x' y) (next : A K k E (.box b x' :: Λ')) : A K k E Λ := by
  refine A.perm hp (A.ents (Λ' := .box b x' :: Λ') (fun h L q => ?_) next)
  obtain ⟨L1, L2, rfl, q1, q2⟩ := q
  obtain ⟨z, r, rfl⟩ := q1
  exact ⟨_, ⟨_, L2, rfl, ⟨z, hx h z r, rfl⟩, q2⟩, .refl _⟩
theorem nil_own {h : GH} (sz : Nat) {y : Value} (r : Rp h (.v (.slice none 0 0)) y) : Rp h (.sl sz [] (some (.slice none 0 0))) y := by
  rw [Rp_v] at r; rw [r.1, Rp_sl]
  exact ⟨none, 0, rfl, Nat.le_refl _, rfl, fun hn => (hn rfl).elim⟩
theorem RpC_imp {h : GH} {x x' : AV} {l l' : List AV} (h1 : ∀ y, Rp h x y → Rp h x' y) (h2 : ∀ vs, RpC h l vs → RpC h l' vs) : ∀ vs, RpC h (x :: l) vs → RpC h (x' :: l') vs := fun vs r => by
  rw [RpC_cons] at r ⊢
  obtain ⟨v, vs', rfl, r1, r2⟩ := r
  exact ⟨v, vs', rfl, h1 v r1, h2 vs' r2⟩
theorem Rp_ag_imp {h : GH} {l l' : List AV} (h1 : ∀ vs, RpC h l vs → RpC h l' vs) : ∀ y, Rp h (.ag l) y → Rp h (.ag l') y := fun y r => by
  rw [Rp_ag] at r ⊢
  obtain ⟨cs, rfl, r⟩ := r
  exact ⟨cs, rfl, h1 cs r⟩
end
end Go.Tp
