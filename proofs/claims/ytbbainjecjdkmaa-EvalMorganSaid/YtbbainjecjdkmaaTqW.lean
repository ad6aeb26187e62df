/-
  Data: a written slice that changes no more, wherever its value stands; its elements in a statement whose order is open.
-/
import Derived.Test.YtbbainjecjdkmaaTqV
namespace Go.Tp
open Go Go.RowKit
set_option linter.unusedVariables false
set_option linter.unusedSimpArgs false

/-! ### entries found in lists that are put together -/
section
variable {y : AEnt} {l Λ Λ' : List AEnt}
instance (priority := low) AAt.app {b : Nat} {x : AV} [i : AAt (y :: (l ++ Λ)) b x] : AAt ((y :: l) ++ Λ) b x := i
instance (priority := low) AAt.app0 {b : Nat} {x : AV} [i : AAt Λ b x] : AAt ([] ++ Λ) b x := i
instance (priority := low) AUp.app {b : Nat} {x x1 : AV} [i : AUp (y :: (l ++ Λ)) b x x1 Λ'] : AUp ((y :: l) ++ Λ) b x x1 Λ' := i
instance (priority := low) AUp.app0 {b : Nat} {x x1 : AV} [i : AUp Λ b x x1 Λ'] : AUp ([] ++ Λ) b x x1 Λ' := i
instance (priority := low) ATl.app {sz : Nat} {z : Value} [i : ATl (y :: (l ++ Λ)) sz z Λ'] : ATl ((y :: l) ++ Λ) sz z Λ' := i
instance (priority := low) ATl.app0 {sz : Nat} {z : Value} [i : ATl Λ sz z Λ'] : ATl ([] ++ Λ) sz z Λ' := i
instance (priority := low) ARow.app {z : Value} {sz : Nat} {r : List AV} [i : ARow (y :: (l ++ Λ)) z sz r] : ARow ((y :: l) ++ Λ) z sz r := i
instance (priority := low) ARow.app0 {z : Value} {sz : Nat} {r : List AV} [i : ARow Λ z sz r] : ARow ([] ++ Λ) z sz r := i
instance (priority := low) ARowUp.app {z : Value} {sz : Nat} {r r1 : List AV} [i : ARowUp (y :: (l ++ Λ)) z sz r r1 Λ'] : ARowUp ((y :: l) ++ Λ) z sz r r1 Λ' := i
instance (priority := low) ARowUp.app0 {z : Value} {sz : Nat} {r r1 : List AV} [i : ARowUp Λ z sz r r1 Λ'] : ARowUp ([] ++ Λ) z sz r r1 Λ' := i
instance (priority := low) AOut.app {x : AEnt} [i : AOut (y :: (l ++ Λ)) x Λ'] : AOut ((y :: l) ++ Λ) x Λ' := i
instance (priority := low) AOut.app0 {x : AEnt} [i : AOut Λ x Λ'] : AOut ([] ++ Λ) x Λ' := i
end
/-! ### a written slice that changes no more, wherever its value stands -/
mutual
inductive Fz (z : Value) (sz : Nat) (l : List AV) : AV → AV → Prop
  | sub {x y : AV} : Sb x y → Fz z sz l x y
  | ms {sz' n : Nat} : Fz z sz l (.ms z sz' n) (.sl sz l none)
  | ag {x y : List AV} : FzL z sz l x y → Fz z sz l (.ag x) (.ag y)
inductive FzL (z : Value) (sz : Nat) (l : List AV) : List AV → List AV → Prop
  | sub {x y : List AV} : SbL x y → FzL z sz l x y
  | cons {x y : AV} {r s : List AV} : Fz z sz l x y → FzL z sz l r s → FzL z sz l (x :: r) (y :: s)
end
mutual
theorem Fz.rp {h : GH} {z : Value} {sz : Nat} {l : List AV} (hz : Rp h (.sl sz l none) z) : ∀ {x y : AV}, Fz z sz l x y → ∀ {v : Value}, Rp h x v → Rp h y v
  | _, _, .sub s, _, r => s.rp r
  | _, _, .ms, _, r => by rw [Rp_ms] at r; rw [r.1]; exact hz
  | _, _, .ag s, _, r => by
    rw [Rp_ag] at r ⊢
    obtain ⟨cs, h1, h2⟩ := r
    exact ⟨cs, h1, FzL.rp hz s h2⟩
theorem FzL.rp {h : GH} {z : Value} {sz : Nat} {l : List AV} (hz : Rp h (.sl sz l none) z) : ∀ {x y : List AV}, FzL z sz l x y → ∀ {v : List Value}, RpC h x v → RpC h y v
  | _, _, .sub s, _, r => s.rp r
  | _, _, .cons s t, _, r => by
    rw [RpC_cons] at r ⊢
    obtain ⟨v, vs, h1, h2, h3⟩ := r
    exact ⟨v, vs, h1, Fz.rp hz s h2, FzL.rp hz t h3⟩
end
section
variable {K : AC} {k : List It} {E : AEnv} {Λ : List AEnt}
/-- .. in a variable -/
theorem A.freezeRowB {b : Nat} {z : Value} {sz : Nat} {l : List AV} {x x' : AV} {Λ' : List AEnt} (hp : Λ.Perm (.row sz z l :: .box b x :: Λ')) (hz : Fz z sz l x x') (next : A K k E (.box b x' :: Λ')) : A K k E Λ := by
  refine A.perm hp ⟨fun h e L hl r q => ?_⟩
  obtain ⟨M, L2, rfl, ⟨p, q3, rfl⟩, ⟨M2, L3, rfl, ⟨u, q5, rfl⟩, q6⟩⟩ := q
  have ho : p.obj = none := q3.choose_spec.choose_spec.choose_spec.2.2.2.1
  obtain ⟨pb, plo, pcs, pobj⟩ := p
  simp only at ho; subst ho
  refine V.publish fun hle => ?_
  have hrp := q3.frozen hle
  exact next.run _ e _ (GH.le_trans hl hle) ⟨r.1.mono hle, r.2.mono hle⟩ (.one ⟨u, hz.rp hrp (q5.mono hle), rfl⟩ (q6.mono hle))
end
section
variable {K : AC} {k : List It} {E : AEnv} {Λ : List AEnt}
theorem A.freezeRowV (t : Nat) (z : Value) {b : Nat} {sz : Nat} {l : List AV} {x x' : AV} {Λ1 Λ' : List AEnt} (hx : lookA E.us t = some (.v (.pointer (some ⟨b, 0, none⟩)))) [i : ARow Λ z sz l] [j : AOut Λ (.row sz z l) Λ1] [u : AAt Λ1 b x] [v : AOut Λ1 (.box b x) Λ']
    (hz : Fz z sz l x x') (next : A K k E (.box b x' :: Λ')) : A K k E Λ := A.freezeRowB (j.perm.trans (v.perm.cons _)) hz next
def allElt (ei : TI) : List AV → Bool
  | [] => true
  | x :: r => match eltOk ei x with
    | true => allElt ei r
    | false => false
theorem allElt_one {ei : TI} : ∀ {l : List AV}, allElt ei l = true → ∀ (h : GH) zs, RpC h l zs → ∀ z, z ∈ zs → allOne (cellsL z) = true
  | [], _, h, zs, q, z, hz => by rw [RpC_nil] at q; subst q; cases hz
  | x :: r, ha, h, zs, q, z, hz => by
    rw [RpC_cons] at q
    obtain ⟨v, vs, rfl, q1, q2⟩ := q
    simp only [allElt] at ha
    split at ha
    · rename_i hx
      rcases List.mem_cons.1 hz with rfl | hz
      · exact (eltOk_rp hx q1).2.1
      · exact allElt_one ha h vs q2 z hz
    · cases ha
/-- append, its elements known -/
theorem A.appendRowE {all : Array Oper} {o : Oper} {l : List Oper} {ks : List (Nat × Bool)} {y1 y2 : Operand} {t el : TypeId} {ti ei : TI} {x2 : AV} {z : Value} {sz' n : Nat} {l1 l2 : List AV} {own2 : Option Value} {d sz : Nat} {Λ' : List AEnt}
    (hg : gyesA E all o.guard = some ks) (ho : o.op = .call ⟨.builtin .append, #[y1, y2], #[t, t]⟩) (h1 : E.ev K.gs ks y1 = some (.ms z sz' n)) (h2 : E.ev K.gs ks y2 = some x2)
    (ht : K.S.get t = some ti) (hdd : ti.d = .slice el) (he : K.S.get el = some ei) (s2 : slOf ei.size x2 = some (l2, own2)) [i : ARow Λ z sz l1] [j : AOut Λ (.row sz z l1) Λ'] (hse : Nat.beq ei.size sz = true)
    (hsz : Nat.blt 0 ei.size = true) (hz1 : allOne ei.zero = true) (hd : o.dst = some d) (hc : okPutA K.n E d = true) (hel : allElt ei l2 = true)
    (hb : (l1.length + l2.length) * ei.size ≤ 281474976710656) (hby : (l1.length + l2.length) * ei.size * ei.bytes ≤ 140737488355328)
    (next : ∀ z', A K (.ops all l :: k) ⟨(d, .ms z' sz (l1.length + l2.length)) :: E.us, E.cs⟩ (.row sz z' (l1 ++ l2) :: Λ')) : A K (.ops all (o :: l) :: k) E Λ :=
  A.appendRow hg ho h1 h2 ht hdd he s2 hse hsz hz1 hd hc hb hby (allElt_one hel) next
end
section
variable {K : AC} {all : Array Oper} {m : Nat} {k : List It} {pubs : Nat → List Nat} {Y : Ua} {π : List Nat} {E : AEnv} {Λ : List AEnt} {D : Da}
/-- the place of an element of a written slice, and what stands there, in a statement whose order is open -/
theorem WA.indexRow {i0 : Nat} {o : Oper} {ks : List (Nat × Bool)} {t el : TypeId} {ti ei : TI} {x ix : Operand} {z : Value} {sz sz' n : Nat} {xs : List AV} {kk : IntKind} {i : Int} {E' : AEnv} (hi0 : nthL all.toList i0 = some o)
    (hg : gyesA E all o.guard = some ks) (ho : o.op = .indexAddr t x ix) (hx : E.ev K.gs ks x = some (.ms z sz' n)) (hi : E.ev K.gs ks ix = some (.v (.int kk i))) (ht : K.S.get t = some ti) (hdd : ti.d = .slice el) (he : K.S.get el = some ei) [j : ARow Λ z sz xs]
    (hs : Nat.beq ei.size sz = true) (h0 : 0 ≤ i) (h1 : i < xs.length) (hput : E.put K.n none o.dst (.ep z sz i.toNat) = some E') (next : WA K all m k pubs Y π E' Λ D) : WA K all m k pubs Y (i0 :: π) E Λ D := by
  refine ⟨fun h e L Es hl r q d => ?_⟩
  have hs := Nat.eq_of_beq_eq_true hs
  obtain ⟨v1, e1, f1⟩ := r.ev (K.hgs.mono hl) _ hx
  obtain ⟨v2, e2, f2⟩ := r.ev (K.hgs.mono hl) _ hi
  rw [Rp_v] at f2; rw [f2.1] at e2
  rw [Rp_ms] at f1
  obtain ⟨rfl, _⟩ := f1
  obtain ⟨M, _, p, ⟨a, cap, zs, rfl, g2, g3, g4, g5⟩, _⟩ := q.mem j.mem
  rcases g5 with ⟨g5, _⟩ | ⟨b, off, sp, rfl, rfl, _⟩
  · subst g5; simp at h1; omega
  · obtain ⟨e', e4, e5⟩ := putA_eq r hput (Rp_ep.2 ⟨b, off, xs.length, cap, rfl, by omega, rfl⟩)
    have hiv : idxv K.S t (.slice (some ⟨b, off, none⟩) xs.length cap) i = some (.pointer (some ⟨b, off + i.toNat * sz, none⟩), xs.length) := by simp only [idxv, ht, hdd, he, hs]
    exact WE.valueY (G := drawRg K.cfg all (L ++ K.F) pubs (YA Y) m k) hi0 (kd_index ho) (gyesA_eq r hg) (fun a w E0 g s hk => by
      have := run_idxv (P := K.cfg.P) (w := w) (kk := kk) K.ok hiv h0 h1
      unfold execOp
      rw [ho]
      simp only [g.ev hk e1, g.ev hk e2, Sem.run_bind, this, Result.andThen_ok, Sem.run_pure]) e4 (next.run h e' L Es hl e5 q d)
theorem WA.loadRow {i0 : Nat} {o : Oper} {ks : List (Nat × Bool)} {t : TypeId} {p : Operand} {z : Value} {sz sz' i : Nat} {xs : List AV} {ti : TI} {y y' : AV} {E' : AEnv} (hi0 : nthL all.toList i0 = some o)
    (hg : gyesA E all o.guard = some ks) (ho : o.op = .load t p) (hp : E.ev K.gs ks p = some (.ep z sz' i)) (ht : K.S.get t = some ti) [j : ARow Λ z sz xs] (hs : Nat.beq ti.size sz = true) (hs' : Nat.beq sz' sz = true) (hsh : shapeOk ti y' = true)
    (hy : xs[i]? = some y) (hy' : y = y') (hput : E.put K.n none o.dst y' = some E') (next : WA K all m k pubs Y π E' Λ D) : WA K all m k pubs Y (i0 :: π) E Λ D := by
  subst hy'
  refine ⟨fun h e L Es hl r q d => ?_⟩
  have hs := Nat.eq_of_beq_eq_true hs
  have hs' := Nat.eq_of_beq_eq_true hs'
  subst hs'
  obtain ⟨v1, e1, f1⟩ := r.ev (K.hgs.mono hl) _ hp
  rw [Rp_ep] at f1
  obtain ⟨b, off, n, cap, rfl, hin, rfl⟩ := f1
  obtain ⟨M, m1, pp, ⟨a, cap', zs, g1, g2, g3, g4, g5⟩, rfl⟩ := q.mem j.mem
  injection g1 with g1 g1' g1''
  subst g1; subst g1'; subst g1''
  rcases g5 with ⟨g5, _⟩ | ⟨b', off', sp, g6, rfl, g9⟩
  · subst g5; simp at hy
  · injection g6 with g6; injection g6 with g6 g7; subst g6; subst g7
    obtain ⟨u, hu, hrp⟩ := g3.rp.at hy
    have hsub := catL_sub (sp := sp) g3.sz hu
    have hld : ldV ti ⟨b, off, catL zs ++ sp, none⟩ (off + i * sz') = some u := by
      have hle : Nat.ble off (off + i * sz') = true := Nat.ble_eq_true_of_le (Nat.le_add_right _ _)
      unfold ldV
      simp only [hle, Nat.add_sub_cancel_left]
      unfold partv
      unfold shapeOk at hsh
      cases hag : ti.agg with
      | true =>
        rw [hag] at hsh
        simp only at hsh ⊢
        rw [hs, hsub]
        split at hsh
        · rw [Rp_ag] at hrp
          obtain ⟨cs, rfl, _⟩ := hrp
          rfl
        · cases hsh
      | false =>
        rw [hag] at hsh
        simp only at hsh ⊢
        have hone := hrp.one hsh
        have hc1 := cellsL_one hone
        have hsz1 : sz' = 1 := by have := g3.sz u (List.mem_of_getElem? hu); rw [hc1] at this; simpa using this.symm
        rw [hsz1, hc1] at hsub
        obtain ⟨_, _, h3⟩ := subL_spec _ _ _ hsub
        have := h3 0 (by omega)
        rw [nthL_eq, hsz1]
        simpa using this.symm
    obtain ⟨e', e4, e5⟩ := putA_eq r hput hrp
    exact WE.valueY (G := drawRg K.cfg all (L ++ K.F) pubs (YA Y) m k) hi0 (kd_load ho) (gyesA_eq r hg) (fun a w E0 g s hk => by
      have := run_ldV (TT.Ok.get K.ok ht) (s.own ⟨b, off, catL zs ++ sp, none⟩ (List.mem_append_right _ (List.mem_append_left _ (m1 _ (List.mem_singleton.2 rfl))))) rfl hld
      unfold execOp
      rw [ho]
      have this : Sem.run K.cfg.P (Instr.loadAt t (Value.pointer (some ⟨b, off + i * sz', none⟩))) w = .ok u w := this
      simp only [g.ev hk e1, Sem.run_bind, this, Result.andThen_ok, Sem.run_pure]) e4 (next.run h e' L Es hl e5 q d)
end

/-! ### rows that change no more, under a slice that is still written -/
def Cv1 (hs : List (Value × List AV)) (sz : Nat) (x y : AV) : Prop := ∀ (h : GH) v, (∀ p, p ∈ hs → Rp h (.sl sz p.2 none) p.1) → Rp h x v → Rp h y v
def CvL (hs : List (Value × List AV)) (sz : Nat) : List AV → List AV → Prop
  | [], r => r = []
  | x :: l, r => ∃ y r', r = y :: r' ∧ Cv1 hs sz x y ∧ CvL hs sz l r'
theorem Cv1.refl {hs : List (Value × List AV)} {sz : Nat} {x : AV} : Cv1 hs sz x x := fun _ _ _ r => r
theorem Cv1.ms {hs : List (Value × List AV)} {sz n : Nat} {p : Value × List AV} (hp : p ∈ hs) : Cv1 hs sz (.ms p.1 sz n) (.sl sz p.2 none) := fun h v hr r => by
  rw [Rp_ms] at r; rw [r.1]; exact hr p hp
theorem CvL.len {hs : List (Value × List AV)} {sz : Nat} : ∀ {l r : List AV}, CvL hs sz l r → r.length = l.length
  | [], r, h => by have h : r = [] := h; subst h; rfl
  | x :: l, _, ⟨y, r', rfl, _, h⟩ => by simp [CvL.len h]
theorem CvL.rp {hs : List (Value × List AV)} {sz : Nat} {h : GH} (hr : ∀ p, p ∈ hs → Rp h (.sl sz p.2 none) p.1) : ∀ {l r : List AV}, CvL hs sz l r → ∀ {vs : List Value}, RpC h l vs → RpC h r vs
  | [], r, hc, vs, q => by have hc : r = [] := hc; subst hc; exact q
  | x :: l, _, ⟨y, r', rfl, h1, h2⟩, vs, q => by
    rw [RpC_cons] at q ⊢
    obtain ⟨v, vs', rfl, q1, q2⟩ := q
    exact ⟨v, vs', rfl, h1 h v hr q1, CvL.rp hr h2 q2⟩
theorem CvL.ms {hs : List (Value × List AV)} {sz : Nat} : ∀ {hs' : List (Value × List AV)}, (∀ p, p ∈ hs' → p ∈ hs) → CvL hs sz (msL sz hs') (slL sz hs')
  | [], _ => rfl
  | p :: r, hp => ⟨_, _, rfl, Cv1.ms (hp p (List.mem_cons_self ..)), CvL.ms fun x hx => hp x (List.mem_cons_of_mem _ hx)⟩
theorem CvL.set {hs : List (Value × List AV)} {sz : Nat} {x y : AV} (hxy : Cv1 hs sz x y) : ∀ {l r : List AV} (i : Nat), CvL hs sz l r → CvL hs sz (l.set i x) (r.set i y)
  | [], r, i, h => by have h : r = [] := h; subst h; exact rfl
  | a :: l, _, 0, ⟨b, r', rfl, h1, h2⟩ => ⟨y, r', rfl, hxy, h2⟩
  | a :: l, _, i + 1, ⟨b, r', rfl, h1, h2⟩ => ⟨b, r'.set i y, rfl, h1, CvL.set hxy i h2⟩
section
variable {K : AC} {k : List It} {E : AEnv} {Λ : List AEnt}
theorem A.freezeRowsR {z : Value} {szo sz : Nat} {hs : List (Value × List AV)} {l l' : List AV} {Λ' : List AEnt} (hp : Λ.Perm (.rows sz hs :: .row szo z l :: Λ')) (hc : CvL hs sz l l') (next : A K k E (.row szo z l' :: Λ')) : A K k E Λ := by
  refine A.perm hp ⟨fun h e L hl r q => ?_⟩
  obtain ⟨L1, L2, rfl, q1, ⟨M, L3, rfl, ⟨p, q3, rfl⟩, q4⟩⟩ := q
  rw [List.append_assoc]
  refine V.publishRows q1 fun h1 hl1 hr => ?_
  obtain ⟨a, cap, zs, rfl, g2, g3, g4, g5⟩ := q3
  have hll := hc.len
  have q5 : RpRow h1 szo (.slice a l.length cap) l' p := by
    refine ⟨a, cap, zs, by rw [hll], by rw [hll]; exact g2, ⟨hc.rp hr (g3.rp.mono hl1), g3.sz, g3.one⟩, g4, ?_⟩
    rcases g5 with ⟨g5, g6⟩ | g5
    · exact .inl ⟨List.length_eq_zero_iff.1 (by rw [hll, g5]; rfl), g6⟩
    · rw [hll]; exact .inr g5
  exact next.run h1 e _ (GH.le_trans hl hl1) ⟨r.1.mono hl1, r.2.mono hl1⟩ (.one ⟨p, q5, rfl⟩ (q4.mono hl1))
end
end Go.Tp
