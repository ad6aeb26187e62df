/-
  (TqD: rules over data: memory, calls, slices.)
-/
import Derived.Test.YtbbainjecjdkmaaTqC
namespace Go.Tp
open Go Go.RowKit
set_option linter.unusedVariables false
set_option linter.unusedSimpArgs false

/-! ### cells of elements -/
theorem atH.left {h : GH} {b o : Nat} {l r : List Value} (g : atH h b o (l ++ r)) : atH h b o l := fun i v hv => g i v (by
  have hi : i < l.length := by
    rcases Nat.lt_or_ge i l.length with q | q
    · exact q
    · rw [List.getElem?_eq_none q] at hv; cases hv
  rw [List.getElem?_append_left hi]; exact hv)
theorem atH.right {h : GH} {b o : Nat} {l r : List Value} (g : atH h b o (l ++ r)) : atH h b (o + l.length) r := fun i v hv => by
  have := g (l.length + i) v (by rw [List.getElem?_append_right (Nat.le_add_right _ _), Nat.add_sub_cancel_left]; exact hv)
  rwa [← Nat.add_assoc] at this
theorem atH.join {h : GH} {b o : Nat} {l r : List Value} (g : atH h b o l) (g' : atH h b (o + l.length) r) : atH h b o (l ++ r) := fun i v hv => by
  rcases Nat.lt_or_ge i l.length with q | q
  · rw [List.getElem?_append_left q] at hv; exact g i v hv
  · rw [List.getElem?_append_right q] at hv
    have := g' _ v hv
    rwa [show o + l.length + (i - l.length) = o + i by omega] at this
theorem cat_len {sz : Nat} : ∀ {zs : List Value}, (∀ z, z ∈ zs → (cellsL z).length = sz) → (catL zs).length = zs.length * sz
  | [], _ => by simp [catL]
  | z :: r, hz => by
    have := cat_len (zs := r) fun x hx => hz x (List.mem_cons_of_mem _ hx)
    simp only [catL, List.flatMap_cons, List.length_append, List.length_cons] at this ⊢
    rw [this, hz z (List.mem_cons_self ..), Nat.succ_mul]; omega
section
variable {h : GH} {sz : Nat}
theorem RpE_cat {b : Nat} : ∀ {l : List AV} {o : Nat}, RpE h sz l b o → ∃ zs, RpC h l zs ∧ (∀ z, z ∈ zs → (cellsL z).length = sz) ∧ atH h b o (catL zs)
  | [], o, _ => ⟨[], RpC_nil.2 rfl, fun _ hz => by simp at hz, fun i v hv => by simp [catL] at hv⟩
  | x :: l, o, r => by
    rw [RpE_cons] at r
    obtain ⟨⟨z, h1, h2, h3⟩, h4⟩ := r
    obtain ⟨zs, g1, g2, g3⟩ := RpE_cat h4
    refine ⟨z :: zs, RpC_cons.2 ⟨z, zs, rfl, h1, g1⟩, fun y hy => ?_, ?_⟩
    · rcases List.mem_cons.1 hy with rfl | hy
      · exact h2
      · exact g2 y hy
    · simp only [catL, List.flatMap_cons]
      exact atH.join h3 (by rw [h2]; exact g3)
theorem RpE_of {b : Nat} : ∀ {l : List AV} {zs : List Value} {o : Nat}, RpC h l zs → (∀ z, z ∈ zs → (cellsL z).length = sz) → atH h b o (catL zs) → RpE h sz l b o
  | [], zs, o, _, _, _ => RpE_nil
  | x :: l, zs, o, r, hz, ha => by
    rw [RpC_cons] at r
    obtain ⟨z, zs', rfl, h1, h2⟩ := r
    simp only [catL, List.flatMap_cons] at ha
    have h3 := hz z (List.mem_cons_self ..)
    rw [RpE_cons]
    exact ⟨⟨z, h1, h3, ha.left⟩, RpE_of h2 (fun y hy => hz y (List.mem_cons_of_mem _ hy)) (by have := ha.right; rwa [h3] at this)⟩
end

/-! ### entries found -/
class AAt (Λ : List AEnt) (b : Nat) (x : outParam AV) : Prop where
  mem : AEnt.box b x ∈ Λ
instance AAt.here {b : Nat} {x : AV} {Λ : List AEnt} : AAt (.box b x :: Λ) b x := ⟨List.mem_cons_self ..⟩
instance (priority := low) AAt.there {y : AEnt} {x : AV} {Λ : List AEnt} {b : Nat} [i : AAt Λ b x] : AAt (y :: Λ) b x := ⟨List.mem_cons_of_mem _ i.mem⟩
class AUp (Λ : List AEnt) (b : Nat) (x x' : AV) (Λ' : outParam (List AEnt)) : Prop where
  split : ∃ Λ1 Λ2, Λ = Λ1 ++ .box b x :: Λ2 ∧ Λ' = Λ1 ++ .box b x' :: Λ2
instance AUp.here {b : Nat} {x x' : AV} {Λ : List AEnt} : AUp (.box b x :: Λ) b x x' (.box b x' :: Λ) := ⟨[], Λ, rfl, rfl⟩
instance (priority := low) AUp.there {y : AEnt} {x x' : AV} {Λ Λ' : List AEnt} {b : Nat} [i : AUp Λ b x x' Λ'] : AUp (y :: Λ) b x x' (y :: Λ') :=
  ⟨let ⟨L1, L2, h1, h2⟩ := i.split; ⟨y :: L1, L2, by rw [h1]; rfl, by rw [h2]; rfl⟩⟩
/-- the spare places of this slice, taken out -/
class ATl (Λ : List AEnt) (sz : Nat) (z : Value) (Λ' : outParam (List AEnt)) : Prop where
  perm : Λ.Perm (.tail sz z :: Λ')
instance ATl.here {sz : Nat} {z : Value} {Λ : List AEnt} : ATl (.tail sz z :: Λ) sz z Λ := ⟨.refl _⟩
instance (priority := low) ATl.there {y : AEnt} {sz : Nat} {z : Value} {Λ Λ' : List AEnt} [i : ATl Λ sz z Λ'] : ATl (y :: Λ) sz z (y :: Λ') := ⟨(i.perm.cons y).trans (.swap _ _ _)⟩
/-- a slice that is written -/
class ARow (Λ : List AEnt) (z : Value) (sz : outParam Nat) (l : outParam (List AV)) : Prop where
  mem : AEnt.row sz z l ∈ Λ
instance ARow.here {z : Value} {sz : Nat} {l : List AV} {Λ : List AEnt} : ARow (.row sz z l :: Λ) z sz l := ⟨List.mem_cons_self ..⟩
instance (priority := low) ARow.there {y : AEnt} {z : Value} {sz : Nat} {l : List AV} {Λ : List AEnt} [i : ARow Λ z sz l] : ARow (y :: Λ) z sz l := ⟨List.mem_cons_of_mem _ i.mem⟩
class ARowUp (Λ : List AEnt) (z : Value) (sz : Nat) (l l' : List AV) (Λ' : outParam (List AEnt)) : Prop where
  split : ∃ Λ1 Λ2, Λ = Λ1 ++ .row sz z l :: Λ2 ∧ Λ' = Λ1 ++ .row sz z l' :: Λ2
instance ARowUp.here {z : Value} {sz : Nat} {l l' : List AV} {Λ : List AEnt} : ARowUp (.row sz z l :: Λ) z sz l l' (.row sz z l' :: Λ) := ⟨[], Λ, rfl, rfl⟩
instance (priority := low) ARowUp.there {y : AEnt} {z : Value} {sz : Nat} {l l' : List AV} {Λ Λ' : List AEnt} [i : ARowUp Λ z sz l l' Λ'] : ARowUp (y :: Λ) z sz l l' (y :: Λ') :=
  ⟨let ⟨L1, L2, h1, h2⟩ := i.split; ⟨y :: L1, L2, by rw [h1]; rfl, by rw [h2]; rfl⟩⟩
/-- an entry taken out -/
class AOut (Λ : List AEnt) (x : AEnt) (Λ' : outParam (List AEnt)) : Prop where
  perm : Λ.Perm (x :: Λ')
instance AOut.here {x : AEnt} {Λ : List AEnt} : AOut (x :: Λ) x Λ := ⟨.refl _⟩
instance (priority := low) AOut.there {x y : AEnt} {Λ Λ' : List AEnt} [i : AOut Λ x Λ'] : AOut (y :: Λ) x (y :: Λ') := ⟨(i.perm.cons y).trans (.swap _ _ _)⟩

section
variable {K : AC} {k : List It} {E : AEnv} {Λ : List AEnt}

/-! ### variables -/
def ldA (ti : TI) (x : AV) (o : Nat) : Option AV := match cellsA x with
  | some l => partA ti l o
  | none => none
theorem ldA_rp {h : GH} {ti : TI} {x y : AV} {o b : Nat} {z : Value} (q : Rp h x z) (hy : ldA ti x o = some y) : ∃ v, ldV ti ⟨b, 0, cellsL z, none⟩ o = some v ∧ Rp h y v := by
  unfold ldA at hy
  split at hy
  · rename_i l hl
    obtain ⟨v, e1, e2⟩ := partA_rp (cellsA_rp q hl) hy
    have h0 : Nat.ble 0 o = true := by cases o <;> rfl
    exact ⟨v, by simp only [ldV, h0, Nat.sub_zero]; exact e1, e2⟩
  · cases hy
theorem A.load {all : Array Oper} {o : Oper} {l : List Oper} {m : Option (Nat × Bool)} {ks : List (Nat × Bool)} {t : TypeId} {p : Operand} {b off : Nat} {ti : TI} {x y : AV} {E' : AEnv}
    (hg : gmodeA E all o.guard = some (m, ks)) (ho : o.op = .load t p) (hp : E.ev K.gs ks p = some (.v (.pointer (some ⟨b, off, none⟩)))) (ht : K.S.get t = some ti) [i : AAt Λ b x]
    (hv : ldA ti x off = some y) (hput : E.put K.n m o.dst y = some E') (next : A K (.ops all l :: k) E' Λ) : A K (.ops all (o :: l) :: k) E Λ := by
  refine ⟨fun h e L hl r q => ?_⟩
  rw [gmodeA_eq r] at hg
  obtain ⟨v1, e1, f1⟩ := r.ev (K.hgs.mono hl) _ hp
  rw [Rp_v] at f1; rw [f1.1] at e1
  obtain ⟨pe, g1, z, g2, g3⟩ := q.mem i.mem
  subst g3
  have g1 := g1 _ (List.mem_singleton.2 rfl)
  obtain ⟨v, e2, e3⟩ := ldA_rp (b := b) g2 hv
  obtain ⟨e', e4, e5⟩ := putA_eq r hput e3
  exact V.load (C := K.cfg) hg ho e1 ht (i := ⟨List.mem_append_left _ g1, rfl⟩) e2 e4 (next.run h e' L hl e5 q)
theorem A.loadY {all : Array Oper} {o : Oper} {l : List Oper} {ks : List (Nat × Bool)} {t : TypeId} {p : Operand} {b off : Nat} {ti : TI} {x y : AV} {E' : AEnv}
    (hg : gyesA E all o.guard = some ks) (ho : o.op = .load t p) (hp : E.ev K.gs ks p = some (.v (.pointer (some ⟨b, off, none⟩)))) (ht : K.S.get t = some ti) [i : AAt Λ b x]
    (hv : ldA ti x off = some y) (hput : E.put K.n none o.dst y = some E') (next : A K (.ops all l :: k) E' Λ) : A K (.ops all (o :: l) :: k) E Λ := by
  refine ⟨fun h e L hl r q => ?_⟩
  obtain ⟨v1, e1, f1⟩ := r.ev (K.hgs.mono hl) _ hp
  rw [Rp_v] at f1; rw [f1.1] at e1
  obtain ⟨pe, g1, z, g2, g3⟩ := q.mem i.mem
  subst g3
  have g1 := g1 _ (List.mem_singleton.2 rfl)
  obtain ⟨v, e2, e3⟩ := ldA_rp (b := b) g2 hv
  obtain ⟨e', e4, e5⟩ := putA_eq r hput e3
  exact V.loadY (C := K.cfg) (gyesA_eq r hg) ho e1 ht (i := ⟨List.mem_append_left _ g1, rfl⟩) e2 e4 (next.run h e' L hl e5 q)

def likeA (x : AV) (cs : List AV) : Option AV := match x with
  | .ag _ => some (.ag cs)
  | _ => match cs with
    | [c] => some c
    | _ => none
def stA (ti : TI) (x : AV) (o : Nat) (v : AV) : Option AV := match cellsA v with
  | some vs => match Nat.beq (lenN vs) ti.size with
    | true => match oneA vs with
      | true => match cellsA x with
        | some xs => match updA xs o vs with
          | some cs => likeA x cs
          | none => none
        | none => none
      | false => none
    | false => none
  | none => none
theorem oneA_mem {l : List AV} (h : oneA l = true) : ∀ x, x ∈ l → x.one = true := by
  induction l with
  | nil => intro x hx; cases hx
  | cons y r ih =>
    simp only [oneA] at h
    split at h
    · rename_i hy
      intro x hx
      rcases List.mem_cons.1 hx with rfl | hx
      · exact hy
      · exact ih h x hx
    · cases h
theorem updA_len : ∀ {l vs r : List AV} {k : Nat}, updA l k vs = some r → r.length = l.length
  | l, [], r, 0, h => by
    have : r = l := by cases l <;> (simp only [updA] at h; injection h with h; exact h.symm)
    rw [this]
  | [], _ :: _, r, 0, h => by simp [updA] at h
  | [], _, r, k + 1, h => by simp [updA] at h
  | x :: l, v :: vs, r, 0, h => by
    simp only [updA] at h
    split at h
    · rename_i r1 h1; injection h with h; subst h; simp [updA_len h1]
    · cases h
  | x :: l, vs, r, k + 1, h => by
    simp only [updA] at h
    split at h
    · rename_i r1 h1; injection h with h; subst h; simp [updA_len h1]
    · cases h
theorem stA_rp {h : GH} {ti : TI} {x x' v : AV} {o b : Nat} {z u : Value} (q : Rp h x z) (p : Rp h v u) (hs : stA ti x o v = some x') : ∃ z', stV ti ⟨b, 0, cellsL z, none⟩ o u = some ⟨b, 0, cellsL z', none⟩ ∧ Rp h x' z' := by
  unfold stA at hs
  split at hs
  · rename_i vs hvs
    split at hs
    · rename_i hlen
      split at hs
      · rename_i ho
        split at hs
        · rename_i xs hxs
          split at hs
          · rename_i cs hcs
            have p1 := cellsA_rp p hvs
            have q1 := cellsA_rp q hxs
            obtain ⟨r', e1, e2⟩ := updA_rp q1 p1 hcs
            have e3 : Nat.beq (cellsL u).length ti.size = true := by rw [p1.len, ← lenN_eq]; exact hlen
            have e4 : allOne (cellsL u) = true := p1.one ho
            have hst : stV ti ⟨b, 0, cellsL z, none⟩ o u = some ⟨b, 0, r', none⟩ := by
              have h0 : Nat.ble 0 o = true := by cases o <;> rfl
              simp only [stV, e3, e4, h0, Nat.sub_zero, e1]
            unfold likeA at hs
            split at hs
            · injection hs with hs; subst hs
              exact ⟨.agg ⟨r'⟩, hst, Rp_ag.2 ⟨r', rfl, e2⟩⟩
            · rename_i hx
              split at hs
              · injection hs with hs; subst hs
                rename_i c
                rw [RpC_cons] at e2
                obtain ⟨y, ys, rfl, e5, e6⟩ := e2
                rw [RpC_nil] at e6; subst e6
                have hone : oneC y = true := by
                  have hx1 : x.one = true := by cases x <;> first | rfl | (exact (hx _ rfl).elim) | cases hxs
                  have hz1 := cellsL_one (q.one hx1)
                  rw [hz1] at e1
                  obtain ⟨u1, u2, u3⟩ := updL_spec _ _ _ e1
                  have h0 := u3 0
                  simp only [List.getElem?_cons_zero] at h0
                  split at h0
                  · rename_i hk
                    obtain ⟨k1, k2⟩ := hk
                    have : y ∈ cellsL u := List.mem_of_getElem? h0.symm
                    exact allOne_mem e4 y this
                  · injection h0 with h0; rw [h0]; exact q.one hx1
                exact ⟨y, by rw [cellsL_one hone]; exact hst, e5⟩
              · cases hs
          · cases hs
        · cases hs
      · cases hs
    · cases hs
  · cases hs
theorem A.store {all : Array Oper} {o : Oper} {l : List Oper} {ks : List (Nat × Bool)} {t : TypeId} {p y : Operand} {b off : Nat} {ti : TI} {x x' v : AV} {Λ' : List AEnt}
    (hg : gyesA E all o.guard = some ks) (ho : o.op = .store t p y) (hp : E.ev K.gs ks p = some (.v (.pointer (some ⟨b, off, none⟩)))) (hy : E.ev K.gs ks y = some v) (ht : K.S.get t = some ti) [i : AAt Λ b x]
    (hv : stA ti x off v = some x') [j : AUp Λ b x x' Λ'] (hd : o.dst = none) (next : A K (.ops all l :: k) E Λ') : A K (.ops all (o :: l) :: k) E Λ := by
  refine ⟨fun h e L hl r q => ?_⟩
  obtain ⟨v1, e1, f1⟩ := r.ev (K.hgs.mono hl) _ hp
  rw [Rp_v] at f1; rw [f1.1] at e1
  obtain ⟨u, e2, f2⟩ := r.ev (K.hgs.mono hl) _ hy
  obtain ⟨Λ1, Λ2, h1, h2⟩ := j.split
  subst h1; subst h2
  obtain ⟨L1, pe, L2, rfl, g1, ⟨z, g2, g2'⟩, g3⟩ := q.mid
  subst g2'
  obtain ⟨z', e3, e4⟩ := stA_rp (b := b) g2 f2 hv
  have i' : EntAt ((L1 ++ ([⟨b, 0, cellsL z, none⟩] ++ L2)) ++ K.F) b ⟨b, 0, cellsL z, none⟩ := ⟨by simp, rfl⟩
  have j' : EntUp ((L1 ++ ([⟨b, 0, cellsL z, none⟩] ++ L2)) ++ K.F) b ⟨b, 0, cellsL z, none⟩ ⟨b, 0, cellsL z', none⟩ ((L1 ++ ([⟨b, 0, cellsL z', none⟩] ++ L2)) ++ K.F) := ⟨L1, L2 ++ K.F, by simp, by simp⟩
  exact V.store (C := K.cfg) (gyesA_eq r hg) ho e1 e2 ht (i := i') e3 (j := j') hd (next.run h e _ hl r (RpL.mid_of g1 ⟨z', e4, rfl⟩ g3))

def zeroA (ti : TI) : Option AV := match allOne ti.zero with
  | true => match ti.agg with
    | true => some (.ag (ti.zero.map .v))
    | false => match ti.zero with
      | [z] => some (.v z)
      | _ => none
  | false => none
theorem zeroA_rp {h : GH} {ti : TI} {x : AV} (hz : zeroA ti = some x) : ∃ z, Rp h x z ∧ cellsL z = ti.zero := by
  unfold zeroA at hz
  split at hz
  · rename_i ho
    split at hz
    · injection hz with hz; subst hz
      exact ⟨.agg ⟨ti.zero⟩, Rp_ag.2 ⟨_, rfl, RpC_v ho⟩, rfl⟩
    · split at hz
      · rename_i z hzz
        injection hz with hz; subst hz
        rw [hzz] at ho
        have h1 : oneC z = true := allOne_mem ho z (List.mem_cons_self ..)
        exact ⟨z, Rp_v.2 ⟨rfl, h1⟩, by rw [hzz]; exact cellsL_one h1⟩
      · cases hz
  · cases hz
theorem zeroA_one {ti : TI} {x : AV} (hz : zeroA ti = some x) : allOne ti.zero = true := by
  unfold zeroA at hz
  split at hz
  · assumption
  · cases hz
theorem A.alloc {all : Array Oper} {o : Oper} {l : List Oper} {ks : List (Nat × Bool)} {t : TypeId} {ti : TI} {d : Nat} {x : AV}
    (hg : gyesA E all o.guard = some ks) (ho : o.op = .alloc t) (ht : K.S.get t = some ti) (hz : zeroA ti = some x) (hd : o.dst = some d) (hc : okPutA K.n E d = true)
    (next : ∀ b, A K (.ops all l :: k) ⟨(d, .v (.pointer (some ⟨b, 0, none⟩))) :: E.us, E.cs⟩ (.box b x :: Λ)) : A K (.ops all (o :: l) :: k) E Λ := by
  refine ⟨fun h e L hl r q => ?_⟩
  refine V.alloc (C := K.cfg) (gyesA_eq r hg) ho ht (zeroA_one hz) hd (okPutA_eq r hc) fun b => ?_
  obtain ⟨z, e1, e2⟩ := zeroA_rp (h := h) hz
  exact (next b).run h _ (_ :: L) hl ⟨r.1.put (Rp_v.2 ⟨rfl, rfl⟩), r.2⟩ (.one ⟨z, e1, by rw [e2]⟩ q)
theorem boxL_of {v : Value} (h : allOne (cellsL v) = true) : boxL v = some (cellsL v) := by
  unfold boxL
  split
  · rename_i l; have h : allOne l = true := h; simp only [h]; rfl
  · rename_i hna
    have : cellsL v = [v] := by cases v <;> first | rfl | (rename_i c; exact (hna c.toList rfl).elim)
    rw [this] at h
    simp only [allOne] at h
    split at h
    · rename_i ho; simp only [ho, this]
    · cases h
theorem A.box {all : Array Oper} {o : Oper} {l : List Oper} {ks : List (Nat × Bool)} {t : TypeId} {y : Operand} {v : AV} {vs : List AV} {d : Nat}
    (hg : gyesA E all o.guard = some ks) (ho : o.op = .box t y) (hy : E.ev K.gs ks y = some v) (hb : cellsA v = some vs) (h1 : oneA vs = true) (hd : o.dst = some d) (hc : okPutA K.n E d = true)
    (next : ∀ b, A K (.ops all l :: k) ⟨(d, .v (.pointer (some ⟨b, 0, none⟩))) :: E.us, E.cs⟩ (.box b v :: Λ)) : A K (.ops all (o :: l) :: k) E Λ := by
  refine ⟨fun h e L hl r q => ?_⟩
  obtain ⟨u, e2, f2⟩ := r.ev (K.hgs.mono hl) _ hy
  have h2 := (cellsA_rp f2 hb).one h1
  refine V.box (C := K.cfg) (gyesA_eq r hg) ho e2 (boxL_of h2) hd (okPutA_eq r hc) fun b => ?_
  exact (next b).run h _ (_ :: L) hl ⟨r.1.put (Rp_v.2 ⟨rfl, rfl⟩), r.2⟩ (.one ⟨u, f2, rfl⟩ q)

/-! ### what a function does, told over data -/
/-- with these entries of memory; what it hands back, and what they have become -/
def Fun (P : Program) (gs : Ua) (f : FuncId) (args : List AV) (Λ : List AEnt) (Q : AV → List AEnt → Prop) : Prop :=
  ∀ w0 h vs L F, GsOk h gs → RpC h args vs → RpL h Λ L → Does P w0 f vs h (L ++ F) fun v h' L' => ∃ x Λ' L1, Q x Λ' ∧ Rp h' x v ∧ h.le h' ∧ RpL h' Λ' L1 ∧ L' = L1 ++ F
/-- a function that hands back this and touches nothing else -/
def Pure (P : Program) (gs : Ua) (f : FuncId) (args : List AV) (x : AV) : Prop := Fun P gs f args [] fun y Λ' => y = x ∧ Λ' = []
theorem Fun.mono {P : Program} {gs : Ua} {f : FuncId} {args : List AV} {Λ : List AEnt} {Q Q' : AV → List AEnt → Prop} (hf : Fun P gs f args Λ Q) (hq : ∀ x Λ', Q x Λ' → Q' x Λ') : Fun P gs f args Λ Q' :=
  fun w0 h vs L F g r q => (hf w0 h vs L F g r q).mono fun _ _ _ ⟨x, Λ', L1, e1, e2, e3⟩ => ⟨x, Λ', L1, hq _ _ e1, e2, e3⟩
def argUa : Nat → List AV → Ua
  | _, [] => []
  | i, v :: r => (i, v) :: argUa (i + 1) r
theorem argUa_rp {h : GH} : ∀ {args : List AV} {vs : List Value} (i : Nat), RpC h args vs → RpU h (argUa i args) (argUs i vs)
  | [], _, i, r => by rw [RpC_nil] at r; subst r; exact rfl
  | x :: l, _, i, r => by
    rw [RpC_cons] at r
    obtain ⟨v, vs', rfl, h1, h2⟩ := r
    exact ⟨v, _, rfl, h1, argUa_rp (i + 1) h2⟩
theorem Fun.of {P : Program} {S : TT} {gs : Ua} {f : FuncId} {fn : Func} {n : Nat} {args : List AV} {Λ : List AEnt} {Q : AV → List AEnt → Prop} {c : Code} (ok : S.Ok P) (hfn : P.funcs[f]? = some fn) (hb : fn.body = some c)
    (hnm : (fn.name == "runtime.NumGoroutine") = false) (hn : fn.ntmps = n) (hl : Nat.ble (lenN args) n = true)
    (hv : ∀ w0 h0 F (hgs : GsOk h0 gs), A ⟨P, S, w0, f, fn, n, ok, hfn, h0, F, gs, hgs, Q⟩ [.code c] ⟨argUa 0 args, []⟩ Λ) : Fun P gs f args Λ Q := by
  intro w0 h vs L F g r q
  have hv := (hv w0 h F g).run h ⟨argUs 0 vs, []⟩ L (GH.le_refl _) ⟨argUa_rp 0 r, rfl⟩ q
  have hd := Does.of_V (C := AC.cfg ⟨P, S, w0, f, fn, n, ok, hfn, h, F, gs, g, Q⟩) hb hnm hn (by rw [r.len, ← lenN_eq]; exact hl) hv
  refine ⟨hd.1, fun w s => (hd.2 w s).mono fun _ _ ⟨v, h', L', e1, ⟨x, Λ', L1, q1, q2, q3, q4, q5⟩, s'⟩ => ⟨v, h', L1 ++ F, e1, ⟨x, Λ', L1, q1, q2, q3, q4, rfl⟩, s'.sub q5⟩⟩
theorem Pure.of {P : Program} {S : TT} {gs : Ua} {f : FuncId} {fn : Func} {n : Nat} {args : List AV} {x : AV} {c : Code} (ok : S.Ok P) (hfn : P.funcs[f]? = some fn) (hb : fn.body = some c)
    (hnm : (fn.name == "runtime.NumGoroutine") = false) (hn : fn.ntmps = n) (hl : Nat.ble (lenN args) n = true)
    (hv : ∀ w0 h0 F (hgs : GsOk h0 gs), A ⟨P, S, w0, f, fn, n, ok, hfn, h0, F, gs, hgs, fun y Λ' => Sb y x ∧ Λ' = []⟩ [.code c] ⟨argUa 0 args, []⟩ []) : Pure P gs f args x := by
  have := Fun.of (Λ := []) (Q := fun y Λ' => Sb y x ∧ Λ' = []) ok hfn hb hnm hn hl hv
  intro w0 h vs L F g r q
  exact (this w0 h vs L F g r q).mono fun _ _ _ ⟨y, Λ', L1, ⟨e1, e1'⟩, e2, e3⟩ => ⟨x, Λ', L1, ⟨rfl, e1'⟩, e1.rp e2, e3⟩

/-- a call -/
theorem A.call {all : Array Oper} {o : Oper} {l : List Oper} {ks : List (Nat × Bool)} {x : Operand} {args : Array Operand} {ts : Array TypeId} {f : FuncId} {fst cap vs args' : List AV} {Λ1 Λ2 : List AEnt} {Q : AV → List AEnt → Prop} {d : Nat}
    (hg : gyesA E all o.guard = some ks) (ho : o.op = .call ⟨.value x, args, ts⟩) (hx : E.ev K.gs ks x = some (.fn f fst cap)) (ha : evsA (E.ev K.gs ks) args.toList = some vs)
    (hd : o.dst = some d) (hc : okPutA K.n E d = true) (hf : Fun K.P K.gs f args' Λ1 Q) (hs : SbL (fst ++ (vs ++ cap)) args') (hp : Λ.Perm (Λ1 ++ Λ2))
    (next : ∀ y Λ', Q y Λ' → A K (.ops all l :: k) ⟨(d, y) :: E.us, E.cs⟩ (Λ' ++ Λ2)) : A K (.ops all (o :: l) :: k) E Λ := by
  refine ⟨fun h e L hl r q => ?_⟩
  obtain ⟨v1, e1, f1⟩ := r.ev (K.hgs.mono hl) _ hx
  rw [Rp_fn] at f1
  obtain ⟨u, w, rfl, f2, f3⟩ := f1
  obtain ⟨us, e2, f4⟩ := evsA_rp (σ := e.ev ks) (fun z x hz => r.ev (K.hgs.mono hl) ks hz) ha
  obtain ⟨L', q1, q2⟩ := q.perm hp
  obtain ⟨L1, L2, rfl, q3, q4⟩ := q1.split
  refine V.perm (q2.append_right _) ?_
  rw [List.append_assoc]
  refine V.call (C := K.cfg) (gyesA_eq r hg) ho e1 e2 hd (okPutA_eq r hc) (hf K.w0 h _ L1 (L2 ++ K.F) (K.hgs.mono hl) (hs.rp (f2.append (f4.append f3))) q3) ?_
  rintro v h' L' ⟨y, Λ', L3, g1, g2, g3, g4, rfl⟩
  have hl' := GH.le_trans hl g3
  have := (next y Λ' g1).run h' ⟨(d, v) :: e.us, e.cs⟩ (L3 ++ L2) hl' ⟨(r.1.mono g3).put g2, r.2.mono g3⟩ (g4.append (q4.mono g3))
  rwa [List.append_assoc] at this
/-- .. of a function that only computes -/
theorem A.callP {all : Array Oper} {o : Oper} {l : List Oper} {ks : List (Nat × Bool)} {x : Operand} {args : Array Operand} {ts : Array TypeId} {f : FuncId} {fst cap vs args' : List AV} {y : AV} {d : Nat}
    (hg : gyesA E all o.guard = some ks) (ho : o.op = .call ⟨.value x, args, ts⟩) (hx : E.ev K.gs ks x = some (.fn f fst cap)) (ha : evsA (E.ev K.gs ks) args.toList = some vs)
    (hd : o.dst = some d) (hc : okPutA K.n E d = true) (hf : Pure K.P K.gs f args' y) (hs : SbL (fst ++ (vs ++ cap)) args')
    (next : A K (.ops all l :: k) ⟨(d, y) :: E.us, E.cs⟩ Λ) : A K (.ops all (o :: l) :: k) E Λ :=
  A.call hg ho hx ha hd hc hf hs (.refl _) fun _ _ ⟨e1, e2⟩ => (by subst e1; subst e2; exact next)

/-! ### slices -/
/-- a slice, by its elements: also the empty one that is no array's -/
def slOf (sz : Nat) : AV → Option (List AV × Option Value)
  | .sl s l own => match Nat.beq s sz with
    | true => some (l, own)
    | false => none
  | .v (.slice none 0 0) => some ([], some (.slice none 0 0))
  | _ => none
theorem slOf_rp {h : GH} {sz : Nat} {x : AV} {l : List AV} {own : Option Value} {y : Value} (hx : slOf sz x = some (l, own)) (r : Rp h x y) : Rp h (.sl sz l own) y := by
  unfold slOf at hx
  split at hx
  · split at hx
    · rename_i hs
      have hs := Nat.eq_of_beq_eq_true hs
      injection hx with hx; injection hx with h1 h2; subst h1; subst h2; subst hs; exact r
    · cases hx
  · injection hx with hx; injection hx with h1 h2; subst h1; subst h2
    rw [Rp_v] at r; rw [r.1, Rp_sl]
    exact ⟨none, 0, rfl, Nat.le_refl _, rfl, fun hn => (hn rfl).elim⟩
  · cases hx
theorem sl_Sl {h : GH} {sz : Nat} {l : List AV} {own : Option Value} {y : Value} (r : Rp h (.sl sz l own) y) : ∃ zs, RpC h l zs ∧ (∀ z, z ∈ zs → (cellsL z).length = sz) ∧ Sl h sz y (catL zs) := by
  rw [Rp_sl] at r
  obtain ⟨a, cap, rfl, h2, _, h4⟩ := r
  by_cases hn : l = []
  · subst hn
    exact ⟨[], RpC_nil.2 rfl, fun _ hz => (by cases hz), a, 0, cap, rfl, h2, by simp [catL], fun h => by omega⟩
  · obtain ⟨b, o, rfl, h5⟩ := h4 hn
    obtain ⟨zs, g1, g2, g3⟩ := RpE_cat h5
    exact ⟨zs, g1, g2, _, _, _, rfl, h2, by rw [cat_len g2, g1.len], fun _ => ⟨b, o, rfl, g3⟩⟩
theorem Sl_sl {h : GH} {sz : Nat} {l : List AV} {y : Value} {zs : List Value} (hsz : 0 < sz) (g1 : RpC h l zs) (g2 : ∀ z, z ∈ zs → (cellsL z).length = sz) (r : Sl h sz y (catL zs)) : Rp h (.sl sz l (some y)) y := by
  obtain ⟨a, n, c, rfl, h2, h3, h4⟩ := r
  rw [cat_len g2, g1.len] at h3
  have hn : n = l.length := (Nat.eq_of_mul_eq_mul_right hsz h3).symm
  subst hn
  rw [Rp_sl]
  refine ⟨a, c, rfl, h2, rfl, fun hn => ?_⟩
  obtain ⟨b, o, rfl, h5⟩ := h4 (by cases l with | nil => exact (hn rfl).elim | cons x l => simp)
  exact ⟨b, o, rfl, RpE_of g1 g2 h5⟩

/-- append to a slice whose spare places are known -/
theorem A.append {all : Array Oper} {o : Oper} {l : List Oper} {ks : List (Nat × Bool)} {y1 y2 : Operand} {t el : TypeId} {ti ei : TI} {x1 x2 : AV} {l1 l2 : List AV} {z : Value} {own2 : Option Value} {d : Nat} {Λ' : List AEnt}
    (hg : gyesA E all o.guard = some ks) (ho : o.op = .call ⟨.builtin .append, #[y1, y2], #[t, t]⟩) (h1 : E.ev K.gs ks y1 = some x1) (h2 : E.ev K.gs ks y2 = some x2)
    (ht : K.S.get t = some ti) (hdd : ti.d = .slice el) (he : K.S.get el = some ei) (s1 : slOf ei.size x1 = some (l1, some z)) (s2 : slOf ei.size x2 = some (l2, own2)) [i : ATl Λ ei.size z Λ']
    (hsz : Nat.blt 0 ei.size = true) (hz1 : allOne ei.zero = true) (hby : Nat.ble ei.bytes 4096 = true) (hd : o.dst = some d) (hc : okPutA K.n E d = true)
    (hb : (l1.length + l2.length) * ei.size ≤ 1073741824)
    (next : ∀ z', A K (.ops all l :: k) ⟨(d, .sl ei.size (l1 ++ l2) (some z')) :: E.us, E.cs⟩ (.tail ei.size z' :: Λ')) : A K (.ops all (o :: l) :: k) E Λ := by
  refine ⟨fun h e L hl r q => ?_⟩
  obtain ⟨v1, e1, f1⟩ := r.ev (K.hgs.mono hl) _ h1
  obtain ⟨v2, e2, f2⟩ := r.ev (K.hgs.mono hl) _ h2
  have f1 := slOf_rp s1 f1
  have f2 := slOf_rp s2 f2
  have hown : v1 = z := by rw [Rp_sl] at f1; obtain ⟨_, _, _, _, h3, _⟩ := f1; exact h3
  subst hown
  obtain ⟨zs1, a1, a2, a3⟩ := sl_Sl f1
  obtain ⟨zs2, b1, b2, b3⟩ := sl_Sl f2
  obtain ⟨L', q1, q2⟩ := q.perm i.perm
  obtain ⟨_, L2, rfl, ⟨p, q3, rfl⟩, q4⟩ := q1
  have hsz' : 0 < ei.size := by simpa [Nat.blt_eq] using hsz
  have hlen : (catL zs1).length + (catL zs2).length = (l1.length + l2.length) * ei.size := by rw [cat_len a2, cat_len b2, a1.len, b1.len, Nat.add_mul]
  refine V.perm (q2.append_right _) ?_
  refine V.append (C := K.cfg) (gyesA_eq r hg) ho e1 e2 ht hdd he hsz hz1 hby hd (okPutA_eq r hc) a3 q3 b3 (by rw [hlen]; exact hb) ?_
  intro v' h' x' g1 g2 g3
  have hl' := GH.le_trans hl g1
  have hcat : catL zs1 ++ catL zs2 = catL (zs1 ++ zs2) := by simp [catL]
  rw [hcat] at g2
  have hrp : Rp h' (.sl ei.size (l1 ++ l2) (some v')) v' := Sl_sl hsz' ((a1.append b1).mono g1) (fun z hz => by
    rcases List.mem_append.1 hz with hz | hz
    · exact a2 z hz
    · exact b2 z hz) g2
  exact (next v').run h' ⟨(d, v') :: e.us, e.cs⟩ (x' :: L2) hl' ⟨(r.1.mono g1).put hrp, r.2.mono g1⟩ (.one ⟨x', g3, rfl⟩ (q4.mono g1))
theorem Tl.full (sz n : Nat) (a : Option Addr) (ha : a = none → n = 0) (hs : ∀ x, a = some x → x.spot = none) : ∃ p : Ent, Tl sz (.slice a n n) p ∧ p.cs = [] ∧ p.obj = none := by
  cases a with
  | none => have := ha rfl; subst this; exact ⟨⟨0, 0, [], none⟩, Tl.nil sz, rfl, rfl⟩
  | some x =>
    obtain ⟨b, o, sp⟩ := x
    have := hs _ rfl
    simp only at this; subst this
    exact ⟨⟨b, o + n * sz, [], none⟩, ⟨rfl, _, _, _, rfl, .inr ⟨b, o, rfl, Nat.le_refl _, rfl, rfl, by simp⟩⟩, rfl, rfl⟩
theorem V.hollow {C : Cfg} {e : Env} {h : GH} {L : List Ent} (p : Ent) (hp : p.cs = []) (ho : p.obj = none) (hv : V C k e h (p :: L)) : V C k e h L := by
  intro hok a w bb cs g s hf hk
  refine hv hok a w bb cs g ⟨s.below, s.imm, s.imm1, fun q hq => ?_, List.pairwise_cons.2 ⟨fun q hq => ⟨fun i j hi => by rw [hp] at hi; simp at hi, fun x => by rw [ho] at x; cases x⟩, s.dis⟩, s.frz⟩ hf hk
  rcases List.mem_cons.1 hq with rfl | hq
  · exact ⟨fun v hv => by rw [hp] at hv; simp at hv, fun i v hv => by rw [hp] at hv; simp at hv, fun i hi => by rw [hp] at hi; simp at hi, fun i hi => by rw [hp] at hi; simp at hi, fun i hi => by rw [hp] at hi; simp at hi, fun o h' => by rw [ho] at h'; cases h'⟩
  · exact s.own q hq
/-- .. to a slice that has none -/
theorem A.appendF {all : Array Oper} {o : Oper} {l : List Oper} {ks : List (Nat × Bool)} {y1 y2 : Operand} {t el : TypeId} {ti ei : TI} {x1 x2 : AV} {l1 l2 : List AV} {a : Option Addr} {n : Nat} {own2 : Option Value} {d : Nat}
    (hg : gyesA E all o.guard = some ks) (ho : o.op = .call ⟨.builtin .append, #[y1, y2], #[t, t]⟩) (h1 : E.ev K.gs ks y1 = some x1) (h2 : E.ev K.gs ks y2 = some x2)
    (ht : K.S.get t = some ti) (hdd : ti.d = .slice el) (he : K.S.get el = some ei) (s1 : slOf ei.size x1 = some (l1, some (.slice a n n))) (s2 : slOf ei.size x2 = some (l2, own2))
    (hsz : Nat.blt 0 ei.size = true) (hz1 : allOne ei.zero = true) (hby : Nat.ble ei.bytes 4096 = true) (hd : o.dst = some d) (hc : okPutA K.n E d = true)
    (hb : (l1.length + l2.length) * ei.size ≤ 1073741824) (ha : a = none → n = 0) (hsp : ∀ x, a = some x → x.spot = none)
    (next : ∀ z', A K (.ops all l :: k) ⟨(d, .sl ei.size (l1 ++ l2) (some z')) :: E.us, E.cs⟩ (.tail ei.size z' :: Λ)) : A K (.ops all (o :: l) :: k) E Λ := by
  have key : A K (.ops all (o :: l) :: k) E (.tail ei.size (.slice a n n) :: Λ) :=
    A.append (Λ := .tail ei.size (.slice a n n) :: Λ) hg ho h1 h2 ht hdd he s1 s2 hsz hz1 hby hd hc hb next
  refine ⟨fun h e L hl r q => ?_⟩
  obtain ⟨p, hp1, hp2, hp3⟩ := Tl.full ei.size n a ha hsp
  exact V.hollow p hp2 hp3 (key.run h e (p :: L) hl r (.one ⟨p, hp1, rfl⟩ q))
/-- .. to the empty slice that is no array's -/
theorem A.append0 {all : Array Oper} {o : Oper} {l : List Oper} {ks : List (Nat × Bool)} {y1 y2 : Operand} {t el : TypeId} {ti ei : TI} {x1 x2 : AV} {l1 l2 : List AV} {own2 : Option Value} {d : Nat}
    (hg : gyesA E all o.guard = some ks) (ho : o.op = .call ⟨.builtin .append, #[y1, y2], #[t, t]⟩) (h1 : E.ev K.gs ks y1 = some x1) (h2 : E.ev K.gs ks y2 = some x2)
    (ht : K.S.get t = some ti) (hdd : ti.d = .slice el) (he : K.S.get el = some ei) (s1 : slOf ei.size x1 = some (l1, some (.slice none 0 0))) (s2 : slOf ei.size x2 = some (l2, own2))
    (hsz : Nat.blt 0 ei.size = true) (hz1 : allOne ei.zero = true) (hby : Nat.ble ei.bytes 4096 = true) (hd : o.dst = some d) (hc : okPutA K.n E d = true)
    (hb : (l1.length + l2.length) * ei.size ≤ 1073741824)
    (next : ∀ z', A K (.ops all l :: k) ⟨(d, .sl ei.size (l1 ++ l2) (some z')) :: E.us, E.cs⟩ (.tail ei.size z' :: Λ)) : A K (.ops all (o :: l) :: k) E Λ :=
  A.appendF hg ho h1 h2 ht hdd he s1 s2 hsz hz1 hby hd hc hb (fun _ => rfl) (fun _ h => by cases h) next
theorem A.append1 {all : Array Oper} {o : Oper} {l : List Oper} {ks : List (Nat × Bool)} {y1 y2 : Operand} {t el : TypeId} {ti ei : TI} {x1 x2 : AV} {l1 l2 : List AV} {b off n : Nat} {own2 : Option Value} {d : Nat}
    (hg : gyesA E all o.guard = some ks) (ho : o.op = .call ⟨.builtin .append, #[y1, y2], #[t, t]⟩) (h1 : E.ev K.gs ks y1 = some x1) (h2 : E.ev K.gs ks y2 = some x2)
    (ht : K.S.get t = some ti) (hdd : ti.d = .slice el) (he : K.S.get el = some ei) (s1 : slOf ei.size x1 = some (l1, some (.slice (some ⟨b, off, none⟩) n n))) (s2 : slOf ei.size x2 = some (l2, own2))
    (hsz : Nat.blt 0 ei.size = true) (hz1 : allOne ei.zero = true) (hby : Nat.ble ei.bytes 4096 = true) (hd : o.dst = some d) (hc : okPutA K.n E d = true)
    (hb : (l1.length + l2.length) * ei.size ≤ 1073741824)
    (next : ∀ z', A K (.ops all l :: k) ⟨(d, .sl ei.size (l1 ++ l2) (some z')) :: E.us, E.cs⟩ (.tail ei.size z' :: Λ)) : A K (.ops all (o :: l) :: k) E Λ :=
  A.appendF hg ho h1 h2 ht hdd he s1 s2 hsz hz1 hby hd hc hb (fun h => by cases h) (fun _ h => by injection h with h; subst h; rfl) next

/-- the element's place, in memory that never changes -/
theorem A.index {all : Array Oper} {o : Oper} {l : List Oper} {ks : List (Nat × Bool)} {t el : TypeId} {ti ei : TI} {x ix : Operand} {xv y y' : AV} {xs : List AV} {own : Option Value} {kk : IntKind} {i : Int} {E' : AEnv}
    (hg : gyesA E all o.guard = some ks) (ho : o.op = .indexAddr t x ix) (hx : E.ev K.gs ks x = some xv) (hi : E.ev K.gs ks ix = some (.v (.int kk i))) (ht : K.S.get t = some ti) (hdd : ti.d = .slice el) (he : K.S.get el = some ei)
    (hs : slOf ei.size xv = some (xs, own)) (h0 : 0 ≤ i) (hy : xs[i.toNat]? = some y) (hy' : y = y') (hput : E.put K.n none o.dst (.pe ei.size y') = some E') (next : A K (.ops all l :: k) E' Λ) : A K (.ops all (o :: l) :: k) E Λ := by
  subst hy'
  refine ⟨fun h e L hl r q => ?_⟩
  obtain ⟨v1, e1, f1⟩ := r.ev (K.hgs.mono hl) _ hx
  obtain ⟨v2, e2, f2⟩ := r.ev (K.hgs.mono hl) _ hi
  rw [Rp_v] at f2; rw [f2.1] at e2
  have f1 := slOf_rp hs f1
  rw [Rp_sl] at f1
  obtain ⟨a, cap, rfl, _, _, h4⟩ := f1
  have hlt : i.toNat < xs.length := by
    rcases Nat.lt_or_ge i.toNat xs.length with h | h
    · exact h
    · rw [List.getElem?_eq_none h] at hy; cases hy
  obtain ⟨b, off, rfl, h5⟩ := h4 (fun hn => by subst hn; simp at hlt)
  obtain ⟨z, g1, g2, g3⟩ := h5.at hy
  obtain ⟨e', e4, e5⟩ := putA_eq r hput (Rp_pe.2 ⟨b, off + i.toNat * ei.size, z, rfl, g1, g2, g3⟩)
  have hiv : idxv K.S t (.slice (some ⟨b, off, none⟩) xs.length cap) i = some (.pointer (some ⟨b, off + i.toNat * ei.size, none⟩), xs.length) := by simp only [idxv, ht, hdd, he]
  exact V.indexY (C := K.cfg) (gyesA_eq r hg) ho e1 e2 hiv e4 h0 (by omega) (next.run h e' L hl e5 q)

def repA : Nat → AV → List AV
  | 0, _ => []
  | n + 1, z => z :: repA n z
def setA : List AV → Nat → AV → Option (List AV)
  | _ :: r, 0, v => some (v :: r)
  | c :: r, n + 1, v => match setA r n v with
    | some r' => some (c :: r')
    | none => none
  | [], _, _ => none
def eltOk (ei : TI) (v : AV) : Bool := match cellsA v with
  | some vs => match Nat.beq (lenN vs) ei.size with
    | true => oneA vs
    | false => false
  | none => false
def layE (ei : TI) (ρ : Operand → Option AV) : List (Nat × Operand) → List AV → Option (List AV)
  | [], l => some l
  | (i, x) :: r, l => match ρ x with
    | some v => match eltOk ei v with
      | true => match setA l i v with
        | some l' => layE ei ρ r l'
        | none => none
      | false => none
    | none => none
def litA (S : TT) (ρ : Operand → Option AV) (t : TypeId) (len : Nat) (parts : List (Nat × Operand)) : Option (Nat × List AV) :=
  match S.get t with
  | some ti => match ti.d with
    | .slice el => match S.get el with
      | some ei => match Nat.beq (len * ei.size) 0 with
        | true => none
        | false => match Nat.ble (len * ei.size) 16777216 with
          | true => match Nat.beq ei.zero.length ei.size with
            | true => match zeroA ei with
              | some z => match layE ei ρ parts (repA len z) with
                | some l => some (ei.size, l)
                | none => none
              | none => none
            | false => none
          | false => none
      | none => none
    | _ => none
  | none => none
theorem repA_len (n : Nat) (z : AV) : (repA n z).length = n := by induction n with
  | zero => rfl
  | succ n ih => simp [repA, ih]
theorem setA_len : ∀ {l : List AV} {i : Nat} {v : AV} {r : List AV}, setA l i v = some r → r.length = l.length
  | [], _, _, _, h => by cases h
  | c :: l, 0, v, r, h => by simp only [setA] at h; injection h with h; subst h; rfl
  | c :: l, i + 1, v, r, h => by
    simp only [setA] at h
    split at h
    · rename_i r' h1; injection h with h; subst h; simp [setA_len h1]
    · cases h
theorem setA_eq {l : List AV} {i : Nat} {v : AV} : ∀ (hi : i < l.length), setA l i v = some (l.set i v) := by
  induction l generalizing i with
  | nil => intro hi; simp at hi
  | cons c l ih =>
    intro hi
    cases i with
    | zero => rfl
    | succ i => simp only [setA, ih (by simpa using hi), List.set_cons_succ]
theorem updL_app (vs : List Value) : ∀ (l r : List Value) (k : Nat) {r' : List Value}, updL r k vs = some r' → updL (l ++ r) (l.length + k) vs = some (l ++ r')
  | [], r, k, r', h => by simpa using h
  | x :: l, r, k, r', h => by
    have := updL_app vs l r k h
    simp only [List.cons_append, List.length_cons]
    rw [show l.length + 1 + k = (l.length + k) + 1 by omega]
    simp only [updL, this]
theorem updL_head : ∀ (l vs r : List Value), vs.length = l.length → updL (l ++ r) 0 vs = some (vs ++ r)
  | [], [], r, _ => by cases r <;> rfl
  | x :: l, v :: vs, r, h => by
    have := updL_head l vs r (by simpa using h)
    simp only [List.cons_append, updL, this]
theorem Els.upd {h : GH} {sz : Nat} : ∀ {l : List AV} {zs : List Value} {i : Nat} {v : AV} {u : Value} {r : List AV}, Els h sz l zs → Rp h v u → (cellsL u).length = sz → allOne (cellsL u) = true → setA l i v = some r →
    ∃ zs', Els h sz r zs' ∧ updL (catL zs) (i * sz) (cellsL u) = some (catL zs')
  | [], _, _, _, _, _, _, _, _, _, hs => by cases hs
  | c :: l, zs, 0, v, u, r, a, p, p1, p2, hs => by
    simp only [setA] at hs
    injection hs with hs; subst hs
    obtain ⟨a1, a2, a3⟩ := a
    rw [RpC_cons] at a1
    obtain ⟨z, zs', rfl, a4, a5⟩ := a1
    refine ⟨u :: zs', ⟨RpC_cons.2 ⟨u, zs', rfl, p, a5⟩, fun x hx => ?_, fun x hx => ?_⟩, ?_⟩
    · rcases List.mem_cons.1 hx with rfl | hx
      · exact p1
      · exact a2 x (List.mem_cons_of_mem _ hx)
    · rcases List.mem_cons.1 hx with rfl | hx
      · exact p2
      · exact a3 x (List.mem_cons_of_mem _ hx)
    · simp only [catL, List.flatMap_cons, Nat.zero_mul]
      exact updL_head _ _ _ (by rw [p1, a2 z (List.mem_cons_self ..)])
  | c :: l, zs, i + 1, v, u, r, a, p, p1, p2, hs => by
    simp only [setA] at hs
    split at hs
    · rename_i r' hr
      injection hs with hs; subst hs
      obtain ⟨a1, a2, a3⟩ := a
      rw [RpC_cons] at a1
      obtain ⟨z, zs', rfl, a4, a5⟩ := a1
      obtain ⟨zs2, b1, b2⟩ := Els.upd (zs := zs') ⟨a5, fun x hx => a2 x (List.mem_cons_of_mem _ hx), fun x hx => a3 x (List.mem_cons_of_mem _ hx)⟩ p p1 p2 hr
      refine ⟨z :: zs2, ⟨RpC_cons.2 ⟨z, zs2, rfl, a4, b1.rp⟩, fun x hx => ?_, fun x hx => ?_⟩, ?_⟩
      · rcases List.mem_cons.1 hx with rfl | hx
        · exact a2 x (List.mem_cons_self ..)
        · exact b1.sz x hx
      · rcases List.mem_cons.1 hx with rfl | hx
        · exact a3 x (List.mem_cons_self ..)
        · exact b1.one x hx
      · simp only [catL, List.flatMap_cons]
        have hz := a2 z (List.mem_cons_self ..)
        have := updL_app (cellsL u) (cellsL z) (zs'.flatMap cellsL) (i * sz) (by simpa only [catL] using b2)
        rw [hz] at this
        rw [show (i + 1) * sz = sz + i * sz by rw [Nat.succ_mul]; omega]
        simpa only [catL] using this
    · cases hs
theorem eltOk_rp {h : GH} {ei : TI} {v : AV} {u : Value} (hv : eltOk ei v = true) (p : Rp h v u) : (cellsL u).length = ei.size ∧ allOne (cellsL u) = true ∧ ∃ vs, cellsA v = some vs := by
  unfold eltOk at hv
  split at hv
  · rename_i vs hvs
    split at hv
    · rename_i hlen
      have p1 := cellsA_rp p hvs
      exact ⟨by rw [p1.len, ← lenN_eq]; exact Nat.eq_of_beq_eq_true hlen, p1.one hv, vs, hvs⟩
    · cases hv
  · cases hv
theorem layE_rp {h : GH} {ei : TI} {ρ : Operand → Option AV} {σ : Operand → Option Value} (hρ : ∀ z x, ρ z = some x → ∃ y, σ z = some y ∧ Rp h x y) : ∀ {parts : List (Nat × Operand)} {l r : List AV} {zs : List Value}, Els h ei.size l zs →
    layE ei ρ parts l = some r → ∃ zs', Els h ei.size r zs' ∧ layL (fun i => some (i * ei.size, ei.size)) σ parts (catL zs) = some (catL zs')
  | [], l, r, zs, a, hr => by simp only [layE] at hr; injection hr with hr; subst hr; exact ⟨zs, a, rfl⟩
  | (i, x) :: p, l, r, zs, a, hr => by
    simp only [layE] at hr
    split at hr
    · rename_i v hv
      split at hr
      · rename_i hok
        split at hr
        · rename_i l' hl'
          obtain ⟨u, e1, e2⟩ := hρ x v hv
          obtain ⟨e3, e4, _⟩ := eltOk_rp hok e2
          obtain ⟨zs1, b1, b2⟩ := a.upd e2 e3 e4 hl'
          obtain ⟨zs', c1, c2⟩ := layE_rp hρ b1 hr
          have e5 : Nat.beq (cellsL u).length ei.size = true := by rw [e3]; simp
          exact ⟨zs', c1, by simp only [layL, e1, e5, b2, c2]⟩
        · cases hr
      · cases hr
    · cases hr
theorem repA_els {h : GH} {sz : Nat} {x : AV} {z : Value} (r : Rp h x z) (h1 : (cellsL z).length = sz) (h2 : allOne (cellsL z) = true) : ∀ n, Els h sz (repA n x) (List.replicate n z)
  | 0 => ⟨RpC_nil.2 rfl, fun _ hz => (by cases hz), fun _ hz => (by cases hz)⟩
  | n + 1 => by
    have ih := repA_els r h1 h2 n
    refine ⟨RpC_cons.2 ⟨z, _, by simp [List.replicate_succ], r, ih.rp⟩, fun y hy => ?_, fun y hy => ?_⟩
    · have := List.eq_of_mem_replicate hy; subst this; exact h1
    · have := List.eq_of_mem_replicate hy; subst this; exact h2
theorem cat_rep (z : Value) (n : Nat) : catL (List.replicate n z) = (List.replicate n (cellsL z)).flatten := by simp [catL, List.flatMap]
theorem Els.oneAll {h : GH} {sz : Nat} {l : List AV} : ∀ {zs : List Value}, Els h sz l zs → allOne (catL zs) = true := fun {zs} a => allOne_of fun v hv => by
  simp only [catL, List.mem_flatMap] at hv
  obtain ⟨z, hz, hv⟩ := hv
  exact allOne_mem (a.one z hz) v hv
theorem litA_rp {h : GH} {S : TT} {ρ : Operand → Option AV} {σ : Operand → Option Value} (hρ : ∀ z x, ρ z = some x → ∃ y, σ z = some y ∧ Rp h x y) {t : TypeId} {len : Nat} {parts : List (Nat × Operand)} {sz : Nat} {l : List AV}
    (hl : litA S ρ t len parts = some (sz, l)) : ∃ zs, Els h sz l zs ∧ litL S σ t len parts = some (catL zs) ∧ l.length = len ∧ 0 < sz := by
  unfold litA at hl
  split at hl
  · rename_i ti ht
    split at hl
    · rename_i el hd
      split at hl
      · rename_i ei he
        split at hl
        · cases hl
        · rename_i h1
          split at hl
          · rename_i h2
            split at hl
            · rename_i h2'
              split at hl
              · rename_i z hz
                split at hl
                · rename_i l' hl'
                  injection hl with hl; injection hl with e1 e2; subst e1; subst e2
                  obtain ⟨z0, f1, f2⟩ := zeroA_rp (h := h) hz
                  have hz1 := zeroA_one hz
                  have a := repA_els (sz := ei.size) f1 (by rw [f2]; exact Nat.eq_of_beq_eq_true h2') (by rw [f2]; exact hz1) len
                  obtain ⟨zs', b1, b2⟩ := layE_rp hρ a hl'
                  refine ⟨zs', b1, ?_, ?_, ?_⟩
                  · simp only [litL, ht, hd, he, h1, h2]
                    rw [cat_rep, f2] at b2
                    exact b2
                  · have : ∀ {parts : List (Nat × Operand)} {l r : List AV}, layE ei ρ parts l = some r → r.length = l.length := by
                      intro parts
                      induction parts with
                      | nil => intro l r h; simp only [layE] at h; injection h with h; subst h; rfl
                      | cons p q ih =>
                        intro l r h
                        obtain ⟨i, x⟩ := p
                        simp only [layE] at h
                        split at h
                        · split at h
                          · split at h
                            · rename_i l1 hl1
                              rw [ih h, setA_len hl1]
                            · cases h
                          · cases h
                        · cases h
                    rw [this hl', repA_len]
                  · rcases Nat.eq_zero_or_pos ei.size with h0 | h0
                    · rw [h0] at h1; simp at h1
                    · exact h0
                · cases hl
              · cases hl
            · cases hl
          · cases hl
      · cases hl
    · cases hl
  · cases hl
/-- a slice's literal, in memory that never changes -/
theorem A.lit {all : Array Oper} {o : Oper} {l : List Oper} {ks : List (Nat × Bool)} {t : TypeId} {len : Nat} {parts : Array (Nat × Operand)} {sz : Nat} {xs : List AV} {d : Nat}
    (hg : gyesA E all o.guard = some ks) (ho : o.op = .buildSlice t len parts) (hx : litA K.S (E.ev K.gs ks) t len parts.toList = some (sz, xs)) (hd : o.dst = some d) (hc : okPutA K.n E d = true)
    (next : ∀ b, A K (.ops all l :: k) ⟨(d, .sl sz xs (some (.slice (some ⟨b, 0, none⟩) len len))) :: E.us, E.cs⟩ Λ) : A K (.ops all (o :: l) :: k) E Λ := by
  refine ⟨fun h e L hl r q => ?_⟩
  obtain ⟨zs, a, b1, b2, b3⟩ := litA_rp (σ := e.ev ks) (fun z x hz => r.ev (K.hgs.mono hl) ks hz) hx
  refine V.litP (C := K.cfg) (gyesA_eq r hg) ho b1 a.oneAll hd (okPutA_eq r hc) fun b h' hle hat => ?_
  have hrp : Rp h' (.sl sz xs (some (.slice (some ⟨b, 0, none⟩) len len))) (.slice (some ⟨b, 0, none⟩) len len) := by
    rw [Rp_sl]
    exact ⟨some ⟨b, 0, none⟩, len, by rw [b2], by rw [b2]; exact Nat.le_refl _, rfl, fun _ => ⟨b, 0, rfl, RpE_of (a.rp.mono hle) a.sz hat⟩⟩
  exact (next b).run h' _ L (GH.le_trans hl hle) ⟨(r.1.mono hle).put hrp, r.2.mono hle⟩ (q.mono hle)

/-! ### what is handed back, out of a variable -/
theorem A.retC {p : Nat} {t : TypeId} {b off : Nat} {ti : TI} {x y : AV} {Λ' : List AEnt} (hk : atEnd k = true) (hr : K.fn.results = #[.cell p t]) (hx : lookA E.us p = some (.v (.pointer (some ⟨b, off, none⟩)))) (ht : K.S.get t = some ti)
    [i : AAt Λ b x] (hv : ldA ti x off = some y) (hs : Λ'.Sublist Λ) (hq : K.Q y Λ') : A K k E Λ := by
  refine ⟨fun h e L hl r q => ?_⟩
  rcases r.1.look p with ⟨z, v, e1, e2, e3⟩ | ⟨e1, e2⟩
  · rw [hx] at e1; injection e1 with e1; subst e1
    rw [Rp_v] at e3; rw [e3.1] at e2
    obtain ⟨pe, g1, z, g2, g3⟩ := q.mem i.mem
    subst g3
    have g1 := g1 _ (List.mem_singleton.2 rfl)
    obtain ⟨v', e4, e5⟩ := ldA_rp (b := b) g2 hv
    obtain ⟨L', m1, m2⟩ := q.sub hs
    exact V.retC (C := K.cfg) hk hr e2 ht (i := ⟨List.mem_append_left _ g1, rfl⟩) e4 ⟨y, Λ', L', hq, e5, hl, m1, m2.append_right _⟩
  · rw [hx] at e1; cases e1
end
end Go.Tp
