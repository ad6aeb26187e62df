/-
  (TqG: over data: shifts, quotients; a slice and nil; the empty literal; slices of slices.)
-/
import Derived.Test.YtbbainjecjdkmaaTqF
import Derived.Lib.SliceRun
namespace Go.Tp
open Go Go.RowKit
set_option linter.unusedVariables false
set_option linter.unusedSimpArgs false

def arV (op : BinOp) (k : IntKind) (a b : Int) : Int := match op with
  | .shl => k.wrap (a * 2 ^ (min b.toNat k.bits))
  | .shr => a.fdiv (2 ^ (min b.toNat k.bits))
  | .quo => k.wrap (a.tdiv b)
  | _ => a.tmod b
def isShift : BinOp → Bool
  | .shl => true
  | .shr => true
  | _ => false
def isDiv : BinOp → Bool
  | .quo => true
  | .rem => true
  | _ => false
theorem run_shift {P : Program} {w : World} {op : BinOp} {t : TypeId} {x y : Operand} {k k' : IntKind} {a b : Int} (ho : isShift op = true) (hb : 0 ≤ b) :
    (do eqGuard op t x y (.int k a) (.int k' b); binOp op t (.int k a) (.int k' b) : Sem Value).run P w = .ok (.int k (arV op k a b)) w := by
  rw [Sem.run_bind, run_eqGuard rfl, Result.andThen_ok]
  have h1 : ¬ b < 0 := by omega
  cases op <;> first | (exact absurd ho (by decide)) | (simp only [binOp, Op.shift, if_neg h1]; rfl)
theorem run_divrem {P : Program} {w : World} {op : BinOp} {t : TypeId} {x y : Operand} {k k' : IntKind} {a b : Int} (ho : isDiv op = true) (hk : ikEq k k' = true) (hb : b ≠ 0) :
    (do eqGuard op t x y (.int k a) (.int k' b); binOp op t (.int k a) (.int k' b) : Sem Value).run P w = .ok (.int k (arV op k a b)) w := by
  rw [Sem.run_bind, run_eqGuard rfl, Result.andThen_ok]
  have hk := ikEq_eq hk; subst hk
  cases op <;> first | (exact absurd ho (by decide)) | (simp only [binOp, ne_eq, not_true_eq_false, if_false, Op.intDiv, if_neg hb]; rfl)

section
variable {K : AC} {k : List It} {E : AEnv} {Λ : List AEnt}
theorem A.shift {all : Array Oper} {o : Oper} {l : List Oper} {ks : List (Nat × Bool)} {op : BinOp} {t ty : TypeId} {x y : Operand} {k1 k2 : IntKind} {a b : Int} {E' : AEnv}
    (hg : gyesA E all o.guard = some ks) (ho : o.op = .binOp op t x y ty) (hs : isShift op = true) (hx : E.ev K.gs ks x = some (.v (.int k1 a))) (hy : E.ev K.gs ks y = some (.v (.int k2 b)))
    (hput : E.put K.n none o.dst (.v (.int k1 (arV op k1 a b))) = some E') (hb : 0 ≤ b) (next : A K (.ops all l :: k) E' Λ) : A K (.ops all (o :: l) :: k) E Λ :=
  A.valueY hg (fun h e L hl r q => by
    obtain ⟨v1, e1, f1⟩ := r.ev (K.hgs.mono hl) _ hx
    obtain ⟨v2, e2, f2⟩ := r.ev (K.hgs.mono hl) _ hy
    rw [Rp_v] at f1 f2; rw [f1.1] at e1; rw [f2.1] at e2
    refine ⟨_, Rp_v.2 ⟨rfl, rfl⟩, fun ac w g s hk => ?_⟩
    have := run_shift (P := K.P) (w := w) (t := t) (x := x) (y := y) (k := k1) (k' := k2) (a := a) hs hb
    unfold execOp; rw [ho]
    simp only [Sem.run_bind] at this
    simp only [g.ev hk e1, g.ev hk e2, Sem.run_bind, this, Result.andThen_ok, Sem.run_pure]) hput next
theorem A.divrem {all : Array Oper} {o : Oper} {l : List Oper} {ks : List (Nat × Bool)} {op : BinOp} {t ty : TypeId} {x y : Operand} {k1 k2 : IntKind} {a b : Int} {E' : AEnv}
    (hg : gyesA E all o.guard = some ks) (ho : o.op = .binOp op t x y ty) (hs : isDiv op = true) (hx : E.ev K.gs ks x = some (.v (.int k1 a))) (hy : E.ev K.gs ks y = some (.v (.int k2 b))) (hk12 : ikEq k1 k2 = true)
    (hput : E.put K.n none o.dst (.v (.int k1 (arV op k1 a b))) = some E') (hb : b ≠ 0) (next : A K (.ops all l :: k) E' Λ) : A K (.ops all (o :: l) :: k) E Λ :=
  A.valueY hg (fun h e L hl r q => by
    obtain ⟨v1, e1, f1⟩ := r.ev (K.hgs.mono hl) _ hx
    obtain ⟨v2, e2, f2⟩ := r.ev (K.hgs.mono hl) _ hy
    rw [Rp_v] at f1 f2; rw [f1.1] at e1; rw [f2.1] at e2
    refine ⟨_, Rp_v.2 ⟨rfl, rfl⟩, fun ac w g s hk => ?_⟩
    have := run_divrem (P := K.P) (w := w) (t := t) (x := x) (y := y) (a := a) hs hk12 hb
    unfold execOp; rw [ho]
    simp only [Sem.run_bind] at this
    simp only [g.ev hk e1, g.ev hk e2, Sem.run_bind, this, Result.andThen_ok, Sem.run_pure]) hput next
theorem A.loopP {c : Code} {ι : Type} (I : ι → AEnv × List AEnt) (Pr : ι → Prop) (μ : ι → Nat)
    (i : ι) (hp : Pr i) (he : I i = (E, Λ)) (round : ∀ i, Pr i → (∀ j, Pr j → μ j < μ i → A K (.inLoop c :: k) (I j).1 (I j).2) → A K (.code c :: .inLoop c :: k) (I i).1 (I i).2) : A K (.code (.loop c) :: k) E Λ :=
  A.loop (ι := {i // Pr i}) (fun i => I i.1) (fun i => μ i.1) (fun i ih => round i.1 i.2 fun j hj hm => ih ⟨j, hj⟩ hm) ⟨i, hp⟩ he
/-- a slice and nil: which, is told only where there are elements -/
theorem A.eqNil {all : Array Oper} {o : Oper} {l : List Oper} {ks : List (Nat × Bool)} {op : BinOp} {t ty el : TypeId} {ti : TI} {x : Operand} {sz : Nat} {xs : List AV} {own : Option Value} {d : Nat}
    (hg : gyesA E all o.guard = some ks) (ho : o.op = .binOp op t x (.const (.slice none 0 0)) ty) (hop : op = .eql) (hx : E.ev K.gs ks x = some (.sl sz xs own)) (ht : K.S.get t = some ti) (hdd : ti.d = .slice el) (hd : o.dst = some d) (hc : okPutA K.n E d = true)
    (next : ∀ b, (b = true → xs = []) → A K (.ops all l :: k) ⟨(d, .v (.bool b)) :: E.us, E.cs⟩ Λ) : A K (.ops all (o :: l) :: k) E Λ := by
  refine ⟨fun h e L hl r q => ?_⟩
  obtain ⟨v1, e1, f1⟩ := r.ev (K.hgs.mono hl) _ hx
  rw [Rp_sl] at f1
  obtain ⟨a, cap, rfl, _, _, h4⟩ := f1
  subst hop
  refine V.valueY (C := K.cfg) (v := .bool a.isNone) (gyesA_eq r hg) (fun ac w g s hk => ?_) (by rw [hd]; exact okPut_put (okPutA_eq r hc))
    ((next a.isNone fun hb => ?_).run h ⟨(d, .bool a.isNone) :: e.us, e.cs⟩ L hl ⟨r.1.put (Rp_v.2 ⟨rfl, rfl⟩), r.2⟩ q)
  · have ok := TT.Ok.get K.ok ht
    have := Lib.run_eql_slice_nil (P := K.P) w t el a xs.length cap 0 0 (by rw [ok.und, hdd])
    unfold execOp; rw [ho]
    have e3 : ac.eval (.const (.slice none 0 0)) = .slice none 0 0 := rfl
    have hgd : (eqGuard .eql t x (.const (.slice none 0 0)) (.slice a xs.length cap) (.slice none 0 0)).run K.P w = .ok () w := run_eqGuard rfl
    show Sem.run K.P _ w = _
    simp only [g.ev hk e1, e3, Sem.run_bind, hgd, this, Result.andThen_ok, Sem.run_pure]
  · by_cases hn : xs = []
    · exact hn
    · obtain ⟨b, off, rfl, _⟩ := h4 hn
      cases hb
/-- the empty literal -/
theorem A.lit0 {all : Array Oper} {o : Oper} {l : List Oper} {ks : List (Nat × Bool)} {t el : TypeId} {ti ei : TI} {d : Nat}
    (hg : gyesA E all o.guard = some ks) (ho : o.op = .buildSlice t 0 #[]) (ht : K.S.get t = some ti) (hdd : ti.d = .slice el) (he : K.S.get el = some ei) (hd : o.dst = some d) (hc : okPutA K.n E d = true)
    (next : ∀ b, A K (.ops all l :: k) ⟨(d, .sl ei.size [] (some (.slice (some ⟨b, 0, none⟩) 0 0))) :: E.us, E.cs⟩ Λ) : A K (.ops all (o :: l) :: k) E Λ := by
  refine ⟨fun h e L hl r q => ?_⟩
  refine V.gives (C := K.cfg) (gyesA_eq r hg) hd (okPutA_eq r hc) fun ac w g s hk => ?_
  have ok := TT.Ok.get K.ok ht
  have oke := TT.Ok.get K.ok he
  obtain ⟨xi, zv, hxi, hxs, hxb, hxz, hzl⟩ := oke.info
  have hund : K.P.underlying t = some (.slice el) := by rw [ok.und, hdd]
  refine ⟨.slice (some ⟨w.heap.size, 0, none⟩) 0 0, _, h, L ++ K.F, ?_, (s.alloc #[] el rfl).tail, (next w.heap.size).run h _ L hl ⟨r.1.put (Rp_sl.2 ⟨_, 0, rfl, Nat.le_refl _, rfl, fun hn => (hn rfl).elim⟩), r.2⟩ q⟩
  unfold execOp; rw [ho]
  show Sem.run K.P _ w = _
  simp [Instr.buildSlice, Go.run_underlying hund, sizeOf, typeInfo, hxi, Instr.fill, newRow, Array.range_zero']
end
section
variable {K : AC} {all : Array Oper} {m : Nat} {k : List It} {pubs : Nat → List Nat} {Y : Ua} {π : List Nat} {E : AEnv} {Λ : List AEnt} {D : Da}
theorem kd_bin {o : Oper} {op : BinOp} {t ty : TypeId} {x y : Operand} (ho : o.op = .binOp op t x y ty) : kd o = .qt := by unfold kd; rw [ho]
theorem WA.shift {i : Nat} {o : Oper} {ks : List (Nat × Bool)} {op : BinOp} {t ty : TypeId} {x y : Operand} {k1 k2 : IntKind} {a b : Int} {E' : AEnv} (hi : nthL all.toList i = some o)
    (hg : gyesA E all o.guard = some ks) (ho : o.op = .binOp op t x y ty) (hs : isShift op = true) (hx : E.ev K.gs ks x = some (.v (.int k1 a))) (hy : E.ev K.gs ks y = some (.v (.int k2 b)))
    (hput : E.put K.n none o.dst (.v (.int k1 (arV op k1 a b))) = some E') (hb : 0 ≤ b) (next : WA K all m k pubs Y π E' Λ D) : WA K all m k pubs Y (i :: π) E Λ D := by
  refine ⟨fun h e L Es hl r q d => ?_⟩
  obtain ⟨v1, e1, f1⟩ := r.ev (K.hgs.mono hl) _ hx
  obtain ⟨v2, e2, f2⟩ := r.ev (K.hgs.mono hl) _ hy
  rw [Rp_v] at f1 f2; rw [f1.1] at e1; rw [f2.1] at e2
  obtain ⟨e', e4, e5⟩ := putA_eq r hput (Rp_v.2 ⟨rfl, rfl⟩)
  exact WE.valueY (G := drawRg K.cfg all (L ++ K.F) pubs (YA Y) m k) hi (kd_bin ho) (gyesA_eq r hg) (fun ac w E0 g s hk => by
    have := run_shift (P := K.cfg.P) (w := w) (t := t) (x := x) (y := y) (k := k1) (k' := k2) (a := a) hs hb
    unfold execOp; rw [ho]
    simp only [Sem.run_bind] at this
    simp only [g.ev hk e1, g.ev hk e2, Sem.run_bind, this, Result.andThen_ok, Sem.run_pure]) e4 (next.run h e' L Es hl e5 q d)
theorem WA.divrem {i : Nat} {o : Oper} {ks : List (Nat × Bool)} {op : BinOp} {t ty : TypeId} {x y : Operand} {k1 k2 : IntKind} {a b : Int} {E' : AEnv} (hi : nthL all.toList i = some o)
    (hg : gyesA E all o.guard = some ks) (ho : o.op = .binOp op t x y ty) (hs : isDiv op = true) (hx : E.ev K.gs ks x = some (.v (.int k1 a))) (hy : E.ev K.gs ks y = some (.v (.int k2 b))) (hk12 : ikEq k1 k2 = true)
    (hput : E.put K.n none o.dst (.v (.int k1 (arV op k1 a b))) = some E') (hb : b ≠ 0) (next : WA K all m k pubs Y π E' Λ D) : WA K all m k pubs Y (i :: π) E Λ D := by
  refine ⟨fun h e L Es hl r q d => ?_⟩
  obtain ⟨v1, e1, f1⟩ := r.ev (K.hgs.mono hl) _ hx
  obtain ⟨v2, e2, f2⟩ := r.ev (K.hgs.mono hl) _ hy
  rw [Rp_v] at f1 f2; rw [f1.1] at e1; rw [f2.1] at e2
  obtain ⟨e', e4, e5⟩ := putA_eq r hput (Rp_v.2 ⟨rfl, rfl⟩)
  exact WE.valueY (G := drawRg K.cfg all (L ++ K.F) pubs (YA Y) m k) hi (kd_bin ho) (gyesA_eq r hg) (fun ac w E0 g s hk => by
    have := run_divrem (P := K.cfg.P) (w := w) (t := t) (x := x) (y := y) (a := a) hs hk12 hb
    unfold execOp; rw [ho]
    simp only [Sem.run_bind] at this
    simp only [g.ev hk e1, g.ev hk e2, Sem.run_bind, this, Result.andThen_ok, Sem.run_pure]) e4 (next.run h e' L Es hl e5 q d)
end
end Go.Tp
