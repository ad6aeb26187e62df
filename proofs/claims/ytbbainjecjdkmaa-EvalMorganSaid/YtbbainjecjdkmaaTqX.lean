/-
  Data: the place of an element of an array.
-/
import Derived.Test.YtbbainjecjdkmaaTqW
namespace Go.Tp
open Go Go.RowKit
set_option linter.unusedVariables false
set_option linter.unusedSimpArgs false
section
variable {K : AC} {k : List It} {E : AEnv} {Λ : List AEnt}
theorem A.indexArr {all : Array Oper} {o : Oper} {l : List Oper} {ks : List (Nat × Bool)} {t el : TypeId} {ti ei : TI} {x ix : Operand} {b off n : Nat} {kk : IntKind} {i : Int} {E' : AEnv}
    (hg : gyesA E all o.guard = some ks) (ho : o.op = .indexAddr t x ix) (hx : E.ev K.gs ks x = some (.v (.pointer (some ⟨b, off, none⟩)))) (hi : E.ev K.gs ks ix = some (.v (.int kk i))) (ht : K.S.get t = some ti) (hdd : ti.d = .array n el) (he : K.S.get el = some ei)
    (hput : E.put K.n none o.dst (.v (.pointer (some ⟨b, off + i.toNat * ei.size, none⟩))) = some E') (h0 : 0 ≤ i) (h1 : i < n) (next : A K (.ops all l :: k) E' Λ) : A K (.ops all (o :: l) :: k) E Λ := by
  refine ⟨fun h e L hl r q => ?_⟩
  obtain ⟨v1, e1, f1⟩ := r.ev (K.hgs.mono hl) _ hx
  obtain ⟨v2, e2, f2⟩ := r.ev (K.hgs.mono hl) _ hi
  rw [Rp_v] at f1 f2; rw [f1.1] at e1; rw [f2.1] at e2
  obtain ⟨e', e4, e5⟩ := putA_eq r hput (Rp_v.2 ⟨rfl, rfl⟩)
  have hiv : idxv K.S t (.pointer (some ⟨b, off, none⟩)) i = some (.pointer (some ⟨b, off + i.toNat * ei.size, none⟩), n) := by simp only [idxv, ht, hdd, he]
  exact V.indexY (C := K.cfg) (gyesA_eq r hg) ho e1 e2 hiv e4 h0 h1 (next.run h e' L hl e5 q)
end
end Go.Tp
