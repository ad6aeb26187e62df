/-
  This project's own program logic, part Lc (TqW TqX TqY TqZ TqL TqM TqN TqO): generic texts, for any program. Conditions: as each theorem says.
-/
import Derived.Test.YtgmeahcclogfmaaDoorLb
/-! TqW -/
namespace Go.Tp
open Go Go.RowKit
set_option linter.unusedVariables false
set_option linter.unusedSimpArgs false
/-! ### entries found in lists that are put together -/
section
variable {y : AEnt} {l Λ Λ' : List AEnt}
instance (priority := low) AAt.app {b : Nat} {x : AV} [i : AAt (y :: (l ++ Λ)) b x] : AAt ((y :: l) ++ Λ) b x := i
instance (priority := low) AAt.app0 {b : Nat} {x : AV} [i : AAt Λ b x] : AAt ([] ++ Λ) b x := i
instance (priority := low) AUp.app {b : Nat} {x x1 : AV} [i : AUp (y :: (l ++ Λ)) b x x1 Λ'] : AUp ((y :: l) ++ Λ) b x x1 Λ' := i
instance (priority := low) AUp.app0 {b : Nat} {x x1 : AV} [i : AUp Λ b x x1 Λ'] : AUp ([] ++ Λ) b x x1 Λ' := i
instance (priority := low) ATl.app {sz : Nat} {z : Value} [i : ATl (y :: (l ++ Λ)) sz z Λ'] : ATl ((y :: l) ++ Λ) sz z Λ' := i
instance (priority := low) ATl.app0 {sz : Nat} {z : Value} [i : ATl Λ sz z Λ'] : ATl ([] ++ Λ) sz z Λ' := i
instance (priority := low) ARow.app {z : Value} {sz : Nat} {r : List AV} [i : ARow (y :: (l ++ Λ)) z sz r] : ARow ((y :: l) ++ Λ) z sz r := i
instance (priority := low) ARow.app0 {z : Value} {sz : Nat} {r : List AV} [i : ARow Λ z sz r] : ARow ([] ++ Λ) z sz r := i
instance (priority := low) ARowUp.app {z : Value} {sz : Nat} {r r1 : List AV} [i : ARowUp (y :: (l ++ Λ)) z sz r r1 Λ'] : ARowUp ((y :: l) ++ Λ) z sz r r1 Λ' := i
instance (priority := low) ARowUp.app0 {z : Value} {sz : Nat} {r r1 : List AV} [i : ARowUp Λ z sz r r1 Λ'] : ARowUp ([] ++ Λ) z sz r r1 Λ' := i
instance (priority := low) AOut.app {x : AEnt} [i : AOut (y :: (l ++ Λ)) x Λ'] : AOut ((y :: l) ++ Λ) x Λ' := i
instance (priority := low) AOut.app0 {x : AEnt} [i : AOut Λ x Λ'] : AOut ([] ++ Λ) x Λ' := i
end
/-! ### a written slice that changes no more, wherever its value stands -/
mutual
inductive Fz (z : Value) (sz : Nat) (l : List AV) : AV → AV → Prop
  | sub {x y : AV} : Sb x y → Fz z sz l x y
  | ms {sz' n : Nat} : Fz z sz l (.ms z sz' n) (.sl sz l none)
  | ag {x y : List AV} : FzL z sz l x y → Fz z sz l (.ag x) (.ag y)
inductive FzL (z : Value) (sz : Nat) (l : List AV) : List AV → List AV → Prop
  | sub {x y : List AV} : SbL x y → FzL z sz l x y
  | cons {x y : AV} {r s : List AV} : Fz z sz l x y → FzL z sz l r s → FzL z sz l (x :: r) (y :: s)
end
mutual
theorem Fz.rp {h : GH} {z : Value} {sz : Nat} {l : List AV} (hz : Rp h (.sl sz l none) z) : ∀ {x y : AV}, Fz z sz l x y → ∀ {v : Value}, Rp h x v → Rp h y v
  | _, _, .sub s, _, r => s.rp r
  | _, _, .ms, _, r => by rw [Rp_ms] at r; rw [r.1]; exact hz
  | _, _, .ag s, _, r => by
    rw [Rp_ag] at r ⊢
    obtain ⟨cs, h1, h2⟩ := r
    exact ⟨cs, h1, FzL.rp hz s h2⟩
theorem FzL.rp {h : GH} {z : Value} {sz : Nat} {l : List AV} (hz : Rp h (.sl sz l none) z) : ∀ {x y : List AV}, FzL z sz l x y → ∀ {v : List Value}, RpC h x v → RpC h y v
  | _, _, .sub s, _, r => s.rp r
  | _, _, .cons s t, _, r => by
    rw [RpC_cons] at r ⊢
    obtain ⟨v, vs, h1, h2, h3⟩ := r
    exact ⟨v, vs, h1, Fz.rp hz s h2, FzL.rp hz t h3⟩
end
section
variable {K : AC} {k : List It} {E : AEnv} {Λ : List AEnt}
end
section
variable {K : AC} {k : List It} {E : AEnv} {Λ : List AEnt}
def allElt (ei : TI) : List AV → Bool
  | [] => true
  | x :: r => match eltOk ei x with
    | true => allElt ei r
    | false => false
end
section
variable {K : AC} {all : Array Oper} {m : Nat} {k : List It} {pubs : Nat → List Nat} {Y : Ua} {π : List Nat} {E : AEnv} {Λ : List AEnt} {D : Da}
theorem WA.indexRow {i0 : Nat} {o : Oper} {ks : List (Nat × Bool)} {t el : TypeId} {ti ei : TI} {x ix : Operand} {z : Value} {sz sz' n : Nat} {xs : List AV} {kk : IntKind} {i : Int} {E' : AEnv} (hi0 : nthL all.toList i0 = some o)
    (hg : gyesA E all o.guard = some ks) (ho : o.op = .indexAddr t x ix) (hx : E.ev K.gs ks x = some (.ms z sz' n)) (hi : E.ev K.gs ks ix = some (.v (.int kk i))) (ht : K.S.get t = some ti) (hdd : ti.d = .slice el) (he : K.S.get el = some ei) [j : ARow Λ z sz xs]
    (hs : Nat.beq ei.size sz = true) (h0 : 0 ≤ i) (h1 : i < xs.length) (hput : E.put K.n none o.dst (.ep z sz i.toNat) = some E') (next : WA K all m k pubs Y π E' Λ D) : WA K all m k pubs Y (i0 :: π) E Λ D := by
  refine ⟨fun h e L Es hl r q d => ?_⟩
  have hs := Nat.eq_of_beq_eq_true hs
  obtain ⟨v1, e1, f1⟩ := r.ev (K.hgs.mono hl) _ hx
  obtain ⟨v2, e2, f2⟩ := r.ev (K.hgs.mono hl) _ hi
  rw [Rp_v] at f2; rw [f2.1] at e2
  rw [Rp_ms] at f1
  obtain ⟨rfl, _⟩ := f1
  obtain ⟨M, _, p, ⟨a, cap, zs, rfl, g2, g3, g4, g5⟩, _⟩ := q.mem j.mem
  rcases g5 with ⟨g5, _⟩ | ⟨b, off, sp, rfl, rfl, _⟩
  · subst g5; simp at h1; omega
  · obtain ⟨e', e4, e5⟩ := putA_eq r hput (Rp_ep.2 ⟨b, off, xs.length, cap, rfl, by omega, rfl⟩)
    have hiv : idxv K.S t (.slice (some ⟨b, off, none⟩) xs.length cap) i = some (.pointer (some ⟨b, off + i.toNat * sz, none⟩), xs.length) := by simp only [idxv, ht, hdd, he, hs]
    exact WE.valueY (G := drawRg K.cfg all (L ++ K.G) pubs (YA Y) m k) hi0 (kd_index ho) (gyesA_eq r hg) (fun a w E0 g s hk => by
      have := run_idxv (P := K.cfg.P) (w := w) (kk := kk) K.ok hiv h0 h1
      unfold execOp
      rw [ho]
      simp only [g.ev hk e1, g.ev hk e2, Sem.run_bind, this, Result.andThen_ok, Sem.run_pure]) e4 (next.run h e' L Es hl e5 q d)
theorem WA.loadRow {i0 : Nat} {o : Oper} {ks : List (Nat × Bool)} {t : TypeId} {p : Operand} {z : Value} {sz sz' i : Nat} {xs : List AV} {ti : TI} {y y' : AV} {E' : AEnv} (hi0 : nthL all.toList i0 = some o)
    (hg : gyesA E all o.guard = some ks) (ho : o.op = .load t p) (hp : E.ev K.gs ks p = some (.ep z sz' i)) (ht : K.S.get t = some ti) [j : ARow Λ z sz xs] (hs : Nat.beq ti.size sz = true) (hs' : Nat.beq sz' sz = true) (hsh : shapeOk ti y' = true)
    (hy : xs[i]? = some y) (hy' : y = y') (hput : E.put K.n none o.dst y' = some E') (next : WA K all m k pubs Y π E' Λ D) : WA K all m k pubs Y (i0 :: π) E Λ D := by
  subst hy'
  refine ⟨fun h e L Es hl r q d => ?_⟩
  have hs := Nat.eq_of_beq_eq_true hs
  have hs' := Nat.eq_of_beq_eq_true hs'
  subst hs'
  obtain ⟨v1, e1, f1⟩ := r.ev (K.hgs.mono hl) _ hp
  rw [Rp_ep] at f1
  obtain ⟨b, off, n, cap, rfl, hin, rfl⟩ := f1
  obtain ⟨M, m1, pp, ⟨a, cap', zs, g1, g2, g3, g4, g5⟩, rfl⟩ := q.mem j.mem
  injection g1 with g1 g1' g1''
  subst g1; subst g1'; subst g1''
  rcases g5 with ⟨g5, _⟩ | ⟨b', off', sp, g6, rfl, g9⟩
  · subst g5; simp at hy
  · injection g6 with g6; injection g6 with g6 g7; subst g6; subst g7
    obtain ⟨u, hu, hrp⟩ := g3.rp.at hy
    have hsub := catL_sub (sp := sp) g3.sz hu
    have hld : ldV ti ⟨b, off, catL zs ++ sp, none⟩ (off + i * sz') = some u := by
      have hle : Nat.ble off (off + i * sz') = true := Nat.ble_eq_true_of_le (Nat.le_add_right _ _)
      unfold ldV
      simp only [hle, Nat.add_sub_cancel_left]
      unfold partv
      unfold shapeOk at hsh
      cases hag : ti.agg with
      | true =>
        rw [hag] at hsh
        simp only at hsh ⊢
        rw [hs, hsub]
        split at hsh
        · rw [Rp_ag] at hrp
          obtain ⟨cs, rfl, _⟩ := hrp
          rfl
        · cases hsh
      | false =>
        rw [hag] at hsh
        simp only at hsh ⊢
        have hone := hrp.one hsh
        have hc1 := cellsL_one hone
        have hsz1 : sz' = 1 := by have := g3.sz u (List.mem_of_getElem? hu); rw [hc1] at this; simpa using this.symm
        rw [hsz1, hc1] at hsub
        obtain ⟨_, _, h3⟩ := subL_spec _ _ _ hsub
        have := h3 0 (by omega)
        rw [nthL_eq, hsz1]
        simpa using this.symm
    obtain ⟨e', e4, e5⟩ := putA_eq r hput hrp
    exact WE.valueY (G := drawRg K.cfg all (L ++ K.G) pubs (YA Y) m k) hi0 (kd_load ho) (gyesA_eq r hg) (fun a w E0 g s hk => by
      have := run_ldV (TT.Ok.get K.ok ht) (s.own ⟨b, off, catL zs ++ sp, none⟩ (List.mem_append_right _ (List.mem_append_left _ (m1 _ (List.mem_singleton.2 rfl))))) rfl hld
      unfold execOp
      rw [ho]
      have this : Sem.run K.cfg.P (Instr.loadAt t (Value.pointer (some ⟨b, off + i * sz', none⟩))) w = .ok u w := this
      simp only [g.ev hk e1, Sem.run_bind, this, Result.andThen_ok, Sem.run_pure]) e4 (next.run h e' L Es hl e5 q d)
end
/-! ### rows that change no more, under a slice that is still written -/
def Cv1 (hs : List (Value × List AV)) (sz : Nat) (x y : AV) : Prop := ∀ (h : GH) v, (∀ p, p ∈ hs → Rp h (.sl sz p.2 none) p.1) → Rp h x v → Rp h y v
def CvL (hs : List (Value × List AV)) (sz : Nat) : List AV → List AV → Prop
  | [], r => r = []
  | x :: l, r => ∃ y r', r = y :: r' ∧ Cv1 hs sz x y ∧ CvL hs sz l r'
section
variable {K : AC} {k : List It} {E : AEnv} {Λ : List AEnt}
end
end Go.Tp
/-! TqX -/
namespace Go.Tp
open Go Go.RowKit
set_option linter.unusedVariables false
set_option linter.unusedSimpArgs false
section
variable {K : AC} {k : List It} {E : AEnv} {Λ : List AEnt}
theorem A.indexArr {all : Array Oper} {o : Oper} {l : List Oper} {ks : List (Nat × Bool)} {t el : TypeId} {ti ei : TI} {x ix : Operand} {b off n : Nat} {kk : IntKind} {i : Int} {E' : AEnv}
    (hg : gyesA E all o.guard = some ks) (ho : o.op = .indexAddr t x ix) (hx : E.ev K.gs ks x = some (.v (.pointer (some ⟨b, off, none⟩)))) (hi : E.ev K.gs ks ix = some (.v (.int kk i))) (ht : K.S.get t = some ti) (hdd : ti.d = .array n el) (he : K.S.get el = some ei)
    (hput : E.put K.n none o.dst (.v (.pointer (some ⟨b, off + i.toNat * ei.size, none⟩))) = some E') (h0 : 0 ≤ i) (h1 : i < n) (next : A K (.ops all l :: k) E' Λ) : A K (.ops all (o :: l) :: k) E Λ := by
  refine ⟨fun h e L hl r q => ?_⟩
  obtain ⟨v1, e1, f1⟩ := r.ev (K.hgs.mono hl) _ hx
  obtain ⟨v2, e2, f2⟩ := r.ev (K.hgs.mono hl) _ hi
  rw [Rp_v] at f1 f2; rw [f1.1] at e1; rw [f2.1] at e2
  obtain ⟨e', e4, e5⟩ := putA_eq r hput (Rp_v.2 ⟨rfl, rfl⟩)
  have hiv : idxv K.S t (.pointer (some ⟨b, off, none⟩)) i = some (.pointer (some ⟨b, off + i.toNat * ei.size, none⟩), n) := by simp only [idxv, ht, hdd, he]
  exact V.indexY (C := K.cfg) (gyesA_eq r hg) ho e1 e2 hiv e4 h0 h1 (next.run h e' L hl e5 q)
end
end Go.Tp
/-! TqY -/
namespace Go.Tp
open Go Go.RowKit
set_option linter.unusedVariables false
set_option linter.unusedSimpArgs false
def skipM (E : AEnv) : Option (Nat × Bool) → Bool
  | some (t, _) => match lookA E.us t with
    | some (.tp []) => true
    | _ => false
  | none => false
def pickS (gs : Ua) (n : Nat) (E : AEnv) (m : Option (Nat × Bool)) (ks : List (Nat × Bool)) (o : Oper) : Option AEnv := match o.op with
  | .pick c x y => match E.ev gs ks c with
    | some (.v (.bool g)) => match g with
      | true => match E.ev gs ks x with
        | some v => E.put n m o.dst v
        | none => none
      | false => match E.ev gs ks y with
        | some v => E.put n m o.dst v
        | none => none
    | _ => none
  | _ => none
def passS (gs : Ua) (n : Nat) (all : Array Oper) (o : Oper) (E : AEnv) : Option AEnv := match gnoA E all o.guard with
  | some _ => E.put n none o.dst (.tp [])
  | none => match gmodeA E all o.guard with
    | some (m, ks) => match skipM E m with
      | true => E.put n none o.dst (.tp [])
      | false => pickS gs n E m ks o
    | none => none
def stp (S : TT) (gs : Ua) (n : Nat) (k : List It) (E : AEnv) : Option (List It × AEnv) := match astepY S gs n k E with
  | some r => some r
  | none => match k with
    | .ops all (o :: l) :: k => match passS gs n all o E with
      | some E' => some (.ops all l :: k, E')
      | none => none
    | .code (.cond c x y) :: k => match E.ev gs [] c with
      | some (.v (.bool g)) => match g with
        | true => some (.code x :: k, E)
        | false => some (.code y :: k, E)
      | _ => none
    | _ => none
def pks (gs : Ua) (n : Nat) (k : List It) (E : AEnv) : Option (List It × AEnv) := match k with
  | .ops all (o :: l) :: k => match gmodeA E all o.guard with
    | some (m, ks) => match pickS gs n E m ks o with
      | some E' => some (.ops all l :: k, E')
      | none => none
    | none => none
  | _ => none
def rdS (S : TT) (gs : Ua) (n : Nat) (k : List It) (E : AEnv) : Option (Nat × (AV → Option (List It × AEnv))) := match k with
  | .ops all (o :: l) :: k => match gyesA E all o.guard with
    | some ks => match o.op with
      | .load t p => match E.ev gs ks p with
        | some (.v (.pointer (some ⟨b, off, none⟩))) => match S.get t with
          | some ti => some (b, fun x => match ldA ti x off with
            | some y => match E.put n none o.dst y with
              | some E' => some (.ops all l :: k, E')
              | none => none
            | none => none)
          | none => none
        | _ => none
      | _ => none
    | none => none
  | _ => none
def rdU (S : TT) (gs : Ua) (n : Nat) (k : List It) (E : AEnv) : Option (Nat × (AV → Option (List It × AEnv))) := match k with
  | .ops all (o :: l) :: k => match gmodeA E all o.guard with
    | some (m, ks) => match o.op with
      | .load t p => match E.ev gs ks p with
        | some (.v (.pointer (some ⟨b, off, none⟩))) => match S.get t with
          | some ti => some (b, fun x => match ldA ti x off with
            | some y => match E.put n m o.dst y with
              | some E' => some (.ops all l :: k, E')
              | none => none
            | none => none)
          | none => none
        | _ => none
      | _ => none
    | none => none
  | _ => none
def wrS (S : TT) (gs : Ua) (k : List It) (E : AEnv) : Option (Nat × (AV → Option AV) × List It) := match k with
  | .ops all (o :: l) :: k => match gyesA E all o.guard with
    | some ks => match o.op with
      | .store t p y => match E.ev gs ks p with
        | some (.v (.pointer (some ⟨b, off, none⟩))) => match E.ev gs ks y with
          | some v => match S.get t with
            | some ti => match o.dst with
              | none => some (b, fun x => stA ti x off v, .ops all l :: k)
              | some _ => none
            | none => none
          | none => none
        | _ => none
      | _ => none
    | none => none
  | _ => none
def bxS (S : TT) (gs : Ua) (n : Nat) (k : List It) (E : AEnv) : Option (List It × Nat × AV) := match k with
  | .ops all (o :: l) :: k => match gyesA E all o.guard with
    | some ks => match o.dst with
      | some d => match okPutA n E d with
        | true => match o.op with
          | .alloc t => match S.get t with
            | some ti => match zeroA ti with
              | some x => some (.ops all l :: k, d, x)
              | none => none
            | none => none
          | .box t y => match E.ev gs ks y with
            | some v => match cellsA v with
              | some vs => match oneA vs with
                | true => some (.ops all l :: k, d, v)
                | false => none
              | none => none
            | none => none
          | _ => none
        | false => none
      | none => none
    | none => none
  | _ => none
def ltS (S : TT) (gs : Ua) (n : Nat) (k : List It) (E : AEnv) : Option (List It × Nat × Nat × Nat × List AV) := match k with
  | .ops all (o :: l) :: k => match gyesA E all o.guard with
    | some ks => match o.op with
      | .buildSlice t len parts => match litA S (E.ev gs ks) t len parts.toList with
        | some (sz, xs) => match o.dst with
          | some d => match okPutA n E d with
            | true => some (.ops all l :: k, d, len, sz, xs)
            | false => none
          | none => none
        | none => none
      | _ => none
    | none => none
  | _ => none
def clS (gs : Ua) (n : Nat) (k : List It) (E : AEnv) : Option (List It × Nat × FuncId × List AV) := match k with
  | .ops all (o :: l) :: k => match gyesA E all o.guard with
    | some ks => match o.op with
      | .call c => match c.callee with
        | .value x => match E.ev gs ks x with
          | some (.fn f fst cap) => match evsA (E.ev gs ks) c.args.toList with
            | some vs => match o.dst with
              | some d => match okPutA n E d with
                | true => some (.ops all l :: k, d, f, fst ++ (vs ++ cap))
                | false => none
              | none => none
            | none => none
          | _ => none
        | _ => none
      | _ => none
    | none => none
  | _ => none
def ixS (S : TT) (gs : Ua) (n : Nat) (k : List It) (E : AEnv) : Option (List AV × Int × (AV → Option (List It × AEnv))) := match k with
  | .ops all (o :: l) :: k => match gyesA E all o.guard with
    | some ks => match o.op with
      | .indexAddr t x ix => match E.ev gs ks x with
        | some xv => match E.ev gs ks ix with
          | some (.v (.int _ i)) => match S.get t with
            | some ti => match ti.d with
              | .slice el => match S.get el with
                | some ei => match slOf ei.size xv with
                  | some (xs, _) => some (xs, i, fun y => match E.put n none o.dst (.pe ei.size y) with
                    | some E' => some (.ops all l :: k, E')
                    | none => none)
                  | none => none
                | none => none
              | _ => none
            | none => none
          | _ => none
        | none => none
      | _ => none
    | none => none
  | _ => none
section
variable {K : AC} {k k' : List It} {E E' : AEnv} {Λ Λ' : List AEnt}
theorem A.s (h : stp K.S K.gs K.n k E = some (k', E')) (next : A K k' E' Λ) : A K k E Λ := by
  unfold stp at h
  split at h
  · rename_i r hr
    injection h with h; subst h
    exact A.stepY hr next
  · split at h
    · rename_i all o l k0
      split at h
      · rename_i E1 hp
        injection h with h; injection h with h1 h2; subst h1; subst h2
        unfold passS at hp
        split at hp
        · rename_i x hg; exact A.skip hg hp next
        · split at hp
          · rename_i m ks hg
            split at hp
            · rename_i hs
              cases m with
              | none => cases hs
              | some mb =>
                obtain ⟨t, b⟩ := mb
                simp only [skipM] at hs
                split at hs
                · rename_i hl; exact A.skipU hg hl hp next
                · cases hs
            · unfold pickS at hp
              split at hp
              · rename_i c x y ho
                split at hp
                · rename_i g hc
                  split at hp
                  · split at hp
                    · rename_i v hv; exact A.pickT hg ho hc hv hp next
                    · cases hp
                  · split at hp
                    · rename_i v hv; exact A.pickF hg ho hc hv hp next
                    · cases hp
                · cases hp
              · cases hp
          · cases hp
      · cases h
    · rename_i c x y k0
      split at h
      · rename_i g hc
        split at h
        · injection h with h; injection h with h1 h2; subst h1; subst h2; exact A.condT hc next
        · injection h with h; injection h with h1 h2; subst h1; subst h2; exact A.condF hc next
      · cases h
    · cases h
theorem A.p (h : pks K.gs K.n k E = some (k', E')) (next : A K k' E' Λ) : A K k E Λ := by
  unfold pks at h
  split at h
  · split at h
    · rename_i m ks hg
      split at h
      · rename_i E1 hp
        injection h with h; injection h with h1 h2; subst h1; subst h2
        unfold pickS at hp
        split at hp
        · rename_i c x y ho
          split at hp
          · rename_i g hc
            split at hp
            · split at hp
              · rename_i v hv; exact A.pickT hg ho hc hv hp next
              · cases hp
            · split at hp
              · rename_i v hv; exact A.pickF hg ho hc hv hp next
              · cases hp
          · cases hp
        · cases hp
      · cases h
    · cases h
  · cases h
theorem A.r {b : Nat} {f : AV → Option (List It × AEnv)} {x : AV} (h : rdS K.S K.gs K.n k E = some (b, f)) [i : AAt Λ b x] (hf : f x = some (k', E')) (next : A K k' E' Λ) : A K k E Λ := by
  unfold rdS at h
  split at h
  · split at h
    · rename_i ks hg
      split at h
      · rename_i t p ho
        split at h
        · rename_i b' off hp
          split at h
          · rename_i ti ht
            injection h with h; injection h with h1 h2; subst h1; subst h2
            simp only at hf
            split at hf
            · rename_i y hy
              split at hf
              · rename_i E1 hput
                injection hf with hf; injection hf with h1 h2; subst h1; subst h2
                exact A.loadY hg ho hp ht hy hput next
              · cases hf
            · cases hf
          · cases h
        · cases h
      · cases h
    · cases h
  · cases h
theorem A.v {b : Nat} {f : AV → Option (List It × AEnv)} {x : AV} (h : rdU K.S K.gs K.n k E = some (b, f)) [i : AAt Λ b x] (hf : f x = some (k', E')) (next : A K k' E' Λ) : A K k E Λ := by
  unfold rdU at h
  split at h
  · split at h
    · rename_i m ks hg
      split at h
      · rename_i t p ho
        split at h
        · rename_i b' off hp
          split at h
          · rename_i ti ht
            injection h with h; injection h with h1 h2; subst h1; subst h2
            simp only at hf
            split at hf
            · rename_i y hy
              split at hf
              · rename_i E1 hput
                injection hf with hf; injection hf with h1 h2; subst h1; subst h2
                exact A.load hg ho hp ht hy hput next
              · cases hf
            · cases hf
          · cases h
        · cases h
      · cases h
    · cases h
  · cases h
theorem A.w {b : Nat} {f : AV → Option AV} {x x' : AV} (h : wrS K.S K.gs k E = some (b, f, k')) [i : AAt Λ b x] (hf : f x = some x') [j : AUp Λ b x x' Λ'] (next : A K k' E Λ') : A K k E Λ := by
  unfold wrS at h
  split at h
  · split at h
    · rename_i ks hg
      split at h
      · rename_i t p y ho
        split at h
        · rename_i b' off hp
          split at h
          · rename_i v hy
            split at h
            · rename_i ti ht
              split at h
              · rename_i hd
                injection h with h; injection h with h1 h2; injection h2 with h2 h3; subst h1; subst h2; subst h3
                exact A.store hg ho hp hy ht hf hd next
              · cases h
            · cases h
          · cases h
        · cases h
      · cases h
    · cases h
  · cases h
theorem A.b {d : Nat} {x : AV} (h : bxS K.S K.gs K.n k E = some (k', d, x)) (next : ∀ b, A K k' ⟨(d, .v (.pointer (some ⟨b, 0, none⟩))) :: E.us, E.cs⟩ (.box b x :: Λ)) : A K k E Λ := by
  unfold bxS at h
  split at h
  · split at h
    · rename_i ks hg
      split at h
      · rename_i d' hd
        split at h
        · rename_i hc
          split at h
          · rename_i t ho
            split at h
            · rename_i ti ht
              split at h
              · rename_i z hz
                injection h with h; injection h with h1 h2; injection h2 with h2 h3; subst h1; subst h2; subst h3
                exact A.alloc hg ho ht hz hd hc next
              · cases h
            · cases h
          · rename_i t y ho
            split at h
            · rename_i v hy
              split at h
              · rename_i vs hvs
                split at h
                · rename_i h1
                  injection h with h; injection h with h2 h3; injection h3 with h3 h4; subst h2; subst h3; subst h4
                  exact A.box hg ho hy hvs h1 hd hc next
                · cases h
              · cases h
            · cases h
          · cases h
        · cases h
      · cases h
    · cases h
  · cases h
theorem A.t {d len sz : Nat} {xs : List AV} (h : ltS K.S K.gs K.n k E = some (k', d, len, sz, xs)) (next : ∀ b, A K k' ⟨(d, .sl sz xs (some (.slice (some ⟨b, 0, none⟩) len len))) :: E.us, E.cs⟩ Λ) : A K k E Λ := by
  unfold ltS at h
  split at h
  · split at h
    · rename_i ks hg
      split at h
      · rename_i t len' parts ho
        split at h
        · rename_i sz' xs' hl
          split at h
          · rename_i d' hd
            split at h
            · rename_i hc
              injection h with h; injection h with h1 h2; injection h2 with h2 h3; injection h3 with h3 h4; injection h4 with h4 h5
              subst h1; subst h2; subst h3; subst h4; subst h5
              exact A.lit hg ho hl hd hc next
            · cases h
          · cases h
        · cases h
      · cases h
    · cases h
  · cases h
theorem clS_eq {d : Nat} {f : FuncId} {as : List AV} (h : clS K.gs K.n k E = some (k', d, f, as)) : ∃ all o l k0 ks x args ts fst cap vs, k = .ops all (o :: l) :: k0 ∧ k' = .ops all l :: k0 ∧ gyesA E all o.guard = some ks ∧ o.op = .call ⟨.value x, args, ts⟩ ∧
    E.ev K.gs ks x = some (.fn f fst cap) ∧ evsA (E.ev K.gs ks) args.toList = some vs ∧ o.dst = some d ∧ okPutA K.n E d = true ∧ as = fst ++ (vs ++ cap) := by
  unfold clS at h
  split at h
  · rename_i all o l k0
    split at h
    · rename_i ks hg
      split at h
      · rename_i c ho
        obtain ⟨cc, ca, ct⟩ := c
        simp only at h
        split at h
        · rename_i x
          split at h
          · rename_i f' fst cap hx
            split at h
            · rename_i vs hvs
              split at h
              · rename_i d' hd
                split at h
                · rename_i hc
                  injection h with h; injection h with h1 h2; injection h2 with h2 h3; injection h3 with h3 h4
                  subst h1; subst h2; subst h3; subst h4
                  exact ⟨all, o, l, k0, ks, x, ca, ct, fst, cap, vs, rfl, rfl, hg, ho, hx, hvs, hd, hc, rfl⟩
                · cases h
              · cases h
            · cases h
          · cases h
        · cases h
      · cases h
    · cases h
  · cases h
theorem A.c {d : Nat} {f : FuncId} {as args' : List AV} {y : AV} (h : clS K.gs K.n k E = some (k', d, f, as)) (hf : Pure K.P K.gs f args' y) (hs : SbL as args') (next : A K k' ⟨(d, y) :: E.us, E.cs⟩ Λ) : A K k E Λ := by
  obtain ⟨all, o, l, k0, ks, x, args, ts, fst, cap, vs, rfl, rfl, hg, ho, hx, ha, hd, hc, rfl⟩ := clS_eq h
  exact A.callP hg ho hx ha hd hc hf hs next
theorem A.e {ι : Type} {X : ι → AV} {LL : ι → List AEnt} {Pr : ι → Prop} {d : Nat} {f : FuncId} {as args' : List AV} {Λ1 Λ2 : List AEnt} (h : clS K.gs K.n k E = some (k', d, f, as)) (hf : FunE K.P K.gs f args' Λ1 X LL Pr) (hs : SbL as args') (hp : Λ.Perm (Λ1 ++ Λ2))
    (next : ∀ i, Pr i → A K k' ⟨(d, X i) :: E.us, E.cs⟩ (LL i ++ Λ2)) : A K k E Λ := by
  obtain ⟨all, o, l, k0, ks, x, args, ts, fst, cap, vs, rfl, rfl, hg, ho, hx, ha, hd, hc, rfl⟩ := clS_eq h
  exact A.callE hg ho hx ha hd hc hf hs hp next
theorem A.d {d : Nat} {f : FuncId} {as args' : List AV} {y : AV} {Λ1 Λ2 : List AEnt} (h : clS K.gs K.n k E = some (k', d, f, as)) (hf : Fun K.P K.gs f args' Λ1 fun z Λ' => z = y ∧ Λ' = Λ1) (hs : SbL as args') (hp : Λ.Perm (Λ1 ++ Λ2))
    (next : A K k' ⟨(d, y) :: E.us, E.cs⟩ (Λ1 ++ Λ2)) : A K k E Λ := by
  obtain ⟨all, o, l, k0, ks, x, args, ts, fst, cap, vs, rfl, rfl, hg, ho, hx, ha, hd, hc, rfl⟩ := clS_eq h
  exact A.callL hg ho hx ha hd hc hf hs hp next
theorem A.x {xs : List AV} {i : Int} {f : AV → Option (List It × AEnv)} {y y' : AV} (h : ixS K.S K.gs K.n k E = some (xs, i, f)) (h0 : 0 ≤ i) (hy : xs[i.toNat]? = some y) (hy' : y = y') (hf : f y' = some (k', E')) (next : A K k' E' Λ) : A K k E Λ := by
  unfold ixS at h
  split at h
  · split at h
    · rename_i ks hg
      split at h
      · rename_i t x ix ho
        split at h
        · rename_i xv hx
          split at h
          · rename_i kk i' hi
            split at h
            · rename_i ti ht
              split at h
              · rename_i el hd
                split at h
                · rename_i ei he
                  split at h
                  · rename_i xs' own hs
                    injection h with h; injection h with h1 h2; injection h2 with h2 h3; subst h1; subst h2; subst h3
                    simp only at hf
                    split at hf
                    · rename_i E1 hput
                      injection hf with hf; injection hf with h1 h2; subst h1; subst h2
                      exact A.index hg ho hx hi ht hd he hs h0 hy hy' hput next
                    · cases hf
                  · cases h
                · cases h
              · cases h
            · cases h
          · cases h
        · cases h
      · cases h
    · cases h
  · cases h
end
/-! ### statements whose order is open -/
def wstp (S : TT) (gs : Ua) (n : Nat) (all : Array Oper) (π : List Nat) (E : AEnv) : Option (List Nat × AEnv) := match wstepYA S gs n all π E with
  | some r => some r
  | none => match π with
    | i :: π => match nthL all.toList i with
      | some o => match passS gs n all o E with
        | some E' => some (π, E')
        | none => none
      | none => none
    | [] => none
def wpk (gs : Ua) (n : Nat) (all : Array Oper) (π : List Nat) (E : AEnv) : Option (List Nat × AEnv) := match π with
  | i :: π => match nthL all.toList i with
    | some o => match gmodeA E all o.guard with
      | some (m, ks) => match pickS gs n E m ks o with
        | some E' => some (π, E')
        | none => none
      | none => none
    | none => none
  | [] => none
def wrd (S : TT) (gs : Ua) (n : Nat) (all : Array Oper) (π : List Nat) (E : AEnv) : Option (Nat × (AV → Option (List Nat × AEnv))) := match π with
  | i :: π => match nthL all.toList i with
    | some o => match gyesA E all o.guard with
      | some ks => match o.op with
        | .load t p => match E.ev gs ks p with
          | some (.v (.pointer (some ⟨b, off, none⟩))) => match S.get t with
            | some ti => some (b, fun x => match ldA ti x off with
              | some y => match E.put n none o.dst y with
                | some E' => some (π, E')
                | none => none
              | none => none)
            | none => none
          | _ => none
        | _ => none
      | none => none
    | none => none
  | [] => none
def wrdU (S : TT) (gs : Ua) (n : Nat) (all : Array Oper) (π : List Nat) (E : AEnv) : Option (Nat × (AV → Option (List Nat × AEnv))) := match π with
  | i :: π => match nthL all.toList i with
    | some o => match gmodeA E all o.guard with
      | some (m, ks) => match o.op with
        | .load t p => match E.ev gs ks p with
          | some (.v (.pointer (some ⟨b, off, none⟩))) => match S.get t with
            | some ti => some (b, fun x => match ldA ti x off with
              | some y => match E.put n m o.dst y with
                | some E' => some (π, E')
                | none => none
              | none => none)
            | none => none
          | _ => none
        | _ => none
      | none => none
    | none => none
  | [] => none
def wcl (gs : Ua) (n : Nat) (all : Array Oper) (Y : Ua) (π : List Nat) (E : AEnv) : Option (List Nat × Nat × Nat × FuncId × List AV × AV) := match π with
  | i :: π => match nthL all.toList i with
    | some o => match gyesA E all o.guard with
      | some ks => match o.op with
        | .call c => match c.callee with
          | .value x => match E.ev gs ks x with
            | some (.fn f fst cap) => match evsA (E.ev gs ks) c.args.toList with
              | some vs => match o.dst with
                | some d => match okPutA n E d with
                  | true => match lookA Y i with
                    | some y => some (π, i, d, f, fst ++ (vs ++ cap), y)
                    | none => none
                  | false => none
                | none => none
              | none => none
            | _ => none
          | _ => none
        | _ => none
      | none => none
    | none => none
  | [] => none
def wix (S : TT) (gs : Ua) (n : Nat) (all : Array Oper) (π : List Nat) (E : AEnv) : Option (List AV × Int × (AV → Option (List Nat × AEnv))) := match π with
  | j :: π => match nthL all.toList j with
    | some o => match gyesA E all o.guard with
      | some ks => match o.op with
        | .indexAddr t x ix => match E.ev gs ks x with
          | some xv => match E.ev gs ks ix with
            | some (.v (.int _ i)) => match S.get t with
              | some ti => match ti.d with
                | .slice el => match S.get el with
                  | some ei => match slOf ei.size xv with
                    | some (xs, _) => some (xs, i, fun y => match E.put n none o.dst (.pe ei.size y) with
                      | some E' => some (π, E')
                      | none => none)
                    | none => none
                  | none => none
                | _ => none
              | none => none
            | _ => none
          | none => none
        | _ => none
      | none => none
    | none => none
  | [] => none
section
variable {K : AC} {all : Array Oper} {m : Nat} {k : List It} {pubs : Nat → List Nat} {Y : Ua} {π π' : List Nat} {E E' : AEnv} {Λ : List AEnt} {D D' : Da}
theorem WA.s (h : wstp K.S K.gs K.n all π E = some (π', E')) (next : WA K all m k pubs Y π' E' Λ D) : WA K all m k pubs Y π E Λ D := by
  unfold wstp at h
  split at h
  · rename_i r hr
    injection h with h; subst h
    exact WA.stepY hr next
  · split at h
    · rename_i i π0
      split at h
      · rename_i o hi
        split at h
        · rename_i E1 hp
          injection h with h; injection h with h1 h2; subst h1; subst h2
          unfold passS at hp
          split at hp
          · rename_i x hg; exact WA.skip hi hg hp next
          · split at hp
            · rename_i mm ks hg
              split at hp
              · rename_i hs
                cases mm with
                | none => cases hs
                | some mb =>
                  obtain ⟨t, b⟩ := mb
                  simp only [skipM] at hs
                  split at hs
                  · rename_i hl; exact WA.skipU hi hg hl hp next
                  · cases hs
              · unfold pickS at hp
                split at hp
                · rename_i c x y ho
                  split at hp
                  · rename_i g hc
                    split at hp
                    · split at hp
                      · rename_i v hv; exact WA.pickT hi hg ho hc hv hp next
                      · cases hp
                    · split at hp
                      · rename_i v hv; exact WA.pickF hi hg ho hc hv hp next
                      · cases hp
                  · cases hp
                · cases hp
            · cases hp
        · cases h
      · cases h
    · cases h
theorem WA.r {b : Nat} {f : AV → Option (List Nat × AEnv)} {x : AV} (h : wrd K.S K.gs K.n all π E = some (b, f)) [z : AAt Λ b x] (hf : f x = some (π', E')) (next : WA K all m k pubs Y π' E' Λ D) : WA K all m k pubs Y π E Λ D := by
  unfold wrd at h
  split at h
  · rename_i i π0
    split at h
    · rename_i o hi
      split at h
      · rename_i ks hg
        split at h
        · rename_i t p ho
          split at h
          · rename_i b' off hp
            split at h
            · rename_i ti ht
              injection h with h; injection h with h1 h2; subst h1; subst h2
              simp only at hf
              split at hf
              · rename_i y hy
                split at hf
                · rename_i E1 hput
                  injection hf with hf; injection hf with h1 h2; subst h1; subst h2
                  exact WA.loadY hi hg ho hp ht hy hput next
                · cases hf
              · cases hf
            · cases h
          · cases h
        · cases h
      · cases h
    · cases h
  · cases h
theorem WA.c {i d : Nat} {f : FuncId} {as args' : List AV} {y : AV} (h : wcl K.gs K.n all Y π E = some (π', i, d, f, as, y)) (hD : dropD (pubs i) D = D') (hf : Pure K.P K.gs f args' y) (hs : SbPL D (pubs i) as args')
    (next : WA K all m k pubs Y π' ⟨(d, y) :: E.us, E.cs⟩ Λ D') : WA K all m k pubs Y π E Λ D := by
  unfold wcl at h
  split at h
  · rename_i i0 π0
    split at h
    · rename_i o hi
      split at h
      · rename_i ks hg
        split at h
        · rename_i c ho
          obtain ⟨cc, ca, ct⟩ := c
          simp only at h
          split at h
          · rename_i x
            split at h
            · rename_i f' fst cap hx
              split at h
              · rename_i vs hvs
                split at h
                · rename_i d' hd
                  split at h
                  · rename_i hc
                    split at h
                    · rename_i y' hy
                      injection h with h; injection h with h1 h2; injection h2 with h2 h3; injection h3 with h3 h4; injection h4 with h4 h5; injection h5 with h5 h6
                      subst h1; subst h2; subst h3; subst h4; subst h5; subst h6
                      exact WA.callP hi hg ho hx hvs hd hc rfl hD hy hf hs next
                    · cases h
                  · cases h
                · cases h
              · cases h
            · cases h
          · cases h
        · cases h
      · cases h
    · cases h
  · cases h
theorem WA.x {xs : List AV} {i : Int} {f : AV → Option (List Nat × AEnv)} {y y' : AV} (h : wix K.S K.gs K.n all π E = some (xs, i, f)) (h0 : 0 ≤ i) (hy : xs[i.toNat]? = some y) (hy' : y = y') (hf : f y' = some (π', E')) (next : WA K all m k pubs Y π' E' Λ D) : WA K all m k pubs Y π E Λ D := by
  unfold wix at h
  split at h
  · rename_i j π0
    split at h
    · rename_i o hj
      split at h
      · rename_i ks hg
        split at h
        · rename_i t x ix ho
          split at h
          · rename_i xv hx
            split at h
            · rename_i kk i' hi
              split at h
              · rename_i ti ht
                split at h
                · rename_i el hd
                  split at h
                  · rename_i ei he
                    split at h
                    · rename_i xs' own hs
                      injection h with h; injection h with h1 h2; injection h2 with h2 h3; subst h1; subst h2; subst h3
                      simp only at hf
                      split at hf
                      · rename_i E1 hput
                        injection hf with hf; injection hf with h1 h2; subst h1; subst h2
                        exact WA.index hj hg ho hx hi ht hd he hs h0 hy hy' hput next
                      · cases hf
                    · cases h
                  · cases h
                · cases h
              · cases h
            · cases h
          · cases h
        · cases h
      · cases h
    · cases h
  · cases h
end
end Go.Tp
/-! TqZ -/
namespace Go.Tp
open Go Go.RowKit
set_option linter.unusedVariables false
set_option linter.unusedSimpArgs false
theorem Pure.any {P : Program} {f : FuncId} {a : List AV} {x : AV} (h : Pure P [] f a x) {gs : Ua} : Pure P gs f a x :=
  fun w0 hh vs L F g r q => h w0 hh vs L F (fun g x hx => by cases hx) r q
abbrev BS (l : List UInt8) : ByteArray := ⟨l.toArray⟩
abbrev AS (l : List UInt8) : AV := .v (.string (BS l))
section
variable {K : AC} {k k' : List It} {E E' : AEnv} {Λ : List AEnt}
def sxS (S : TT) (gs : Ua) (n : Nat) (k : List It) (E : AEnv) : Option (ByteArray × Int × (UInt8 → Option (List It × AEnv))) := match k with
  | .ops all (o :: l) :: k => match gyesA E all o.guard with
    | some ks => match o.op with
      | .index t x ix => match E.ev gs ks x with
        | some (.v (.string s)) => match E.ev gs ks ix with
          | some (.v (.int _ i)) => match S.get t with
            | some ti => match ti.d with
              | .string => some (s, i, fun b => match E.put n none o.dst (.v (.int .u8 b.toNat)) with
                | some E' => some (.ops all l :: k, E')
                | none => none)
              | _ => none
            | none => none
          | _ => none
        | _ => none
      | _ => none
    | none => none
  | _ => none
def scS (gs : Ua) (n : Nat) (k : List It) (E : AEnv) : Option (ByteArray × ByteArray × (ByteArray → Option (List It × AEnv))) := match k with
  | .ops all (o :: l) :: k => match gyesA E all o.guard with
    | some ks => match o.op with
      | .binOp op t x y _ => match op with
        | .add => match E.ev gs ks x with
          | some (.v (.string a)) => match E.ev gs ks y with
            | some (.v (.string b)) => some (a, b, fun c => match E.put n none o.dst (.v (.string c)) with
              | some E' => some (.ops all l :: k, E')
              | none => none)
            | _ => none
          | _ => none
        | _ => none
      | _ => none
    | none => none
  | _ => none
end
end Go.Tp
/-! TqL -/
namespace Go.Tp
open Go Go.RowKit
set_option linter.unusedVariables false
set_option linter.unusedSimpArgs false
/-! ### entering a function -/
def jumpIts : Option Code → List It
  | none => []
  | some c => [.code c]
section
variable {C : Cfg} {k : List It} {e : Env} {h : GH} {L : List Ent}
end
end Go.Tp
/-! TqM -/
namespace Go.Tp
open Go Go.RowKit
set_option linter.unusedVariables false
set_option linter.unusedSimpArgs false
structure TmOk (h : GH) (n : Nat) (E : AEnv) (tm : Array Value) : Prop where
  size : tm.size = n
  us : ∃ us, RpU h E.us us ∧ ∀ t v, look us t = some v → tm[t]? = some v
def setsA : List Nat → List AV → Ua → Ua
  | t :: ts, x :: xs, us => setsA ts xs ((t, x) :: us)
  | _, _, us => us
def setsU : List Nat → List Value → Us → Us
  | t :: ts, x :: xs, us => setsU ts xs ((t, x) :: us)
  | _, _, us => us
def allBelow (n : Nat) : List Nat → Bool
  | [] => true
  | t :: ts => match Nat.blt t n with
    | true => allBelow n ts
    | false => false
class ALp (Λ : List AEnt) (lp : outParam Nat) (r0 : outParam Loop) (st : outParam LoopState) (pd : outParam (Option Code)) (Λ' : outParam (List AEnt)) : Prop where
  perm : Λ.Perm (.loop lp r0 st pd :: Λ')
instance ALp.here {lp : Nat} {r0 : Loop} {st : LoopState} {pd : Option Code} {Λ : List AEnt} : ALp (.loop lp r0 st pd :: Λ) lp r0 st pd Λ := ⟨.refl _⟩
instance (priority := low) ALp.there {y : AEnt} {lp : Nat} {r0 : Loop} {st : LoopState} {pd : Option Code} {Λ Λ' : List AEnt} [i : ALp Λ lp r0 st pd Λ'] : ALp (y :: Λ) lp r0 st pd (y :: Λ') := ⟨(i.perm.cons y).trans (.swap _ _ _)⟩
def rangeQ (K' : AC) (E : AEnv) (k : List It) (lp : Nat) (r0 : Loop) : AV → List AEnt → Prop :=
  fun _ Λ' => ∃ st pd Λ'', st ≠ .busy ∧ Λ'.Perm (.loop lp r0 st pd :: Λ'') ∧ A K' (jumpIts pd ++ k) E Λ''
section
variable {K : AC} {k : List It} {E : AEnv} {Λ : List AEnt}
end
end Go.Tp
/-! TqN -/
namespace Go.Tp
open Go Go.RowKit
set_option linter.unusedVariables false
set_option linter.unusedSimpArgs false
def partV (sz : Nat) (l h : Nat) : Value → Value
  | .slice a _ c => .slice (if c = l then a else a.map (·.add (l * sz))) (h - l) (c - l)
  | v => v
def boundA (ρ : Operand → Option AV) (d : Int) : Option Operand → Option Int
  | none => some d
  | some x => match ρ x with
    | some (.v (.int _ i)) => some i
    | _ => none
def boundV (σ : Operand → Value) (d : Int) : Option Operand → Option Int
  | none => some d
  | some x => match σ x with
    | .int _ i => some i
    | _ => none
theorem run_sub {P : Program} {S : TT} {w : World} {t el : TypeId} {ti ei : TI} (hS : S.Ok P) (ht : S.get t = some ti) (hd : ti.d = .slice el) (he : S.get el = some ei) {σ : Operand → Value} {a : Option Addr} {n c : Nat} {lo hi : Option Operand} {l h : Int}
    (h1 : boundV σ 0 lo = some l) (h2 : boundV σ n hi = some h) (h0 : 0 ≤ l) (h3 : l ≤ h) (h4 : h ≤ c) (h5 : hi = none → n ≤ c) :
    (Instr.sliceAt t (.slice a n c) (lo.map σ) (hi.map σ) none).run P w = .ok (partV ei.size l.toNat h.toNat (.slice a n c)) w := by
  have hu : (underlying t).run P w = .ok (.slice el) w := by rw [run_underlying (TT.Ok.get hS ht), hd]
  have hz : (sizeOf el).run P w = .ok ei.size w := run_sizeOf (TT.Ok.get hS he)
  have eh : (h.toNat : Int) = h := Int.toNat_of_nonneg (by omega)
  have hb : (Instr.sliceBounds true n c (lo.map σ) (hi.map σ) none).run P w = .ok (l.toNat, h.toNat, c) w := by
    cases hi with
    | none =>
      simp only [boundV, Option.some.injEq] at h2
      subst h2
      cases lo with
      | none =>
        simp only [boundV, Option.some.injEq] at h1
        subst h1
        simp [Instr.sliceBounds]
      | some x =>
        simp only [boundV] at h1
        split at h1
        · rename_i k i hx
          injection h1 with h1; subst h1
          have hl : i ≤ (n : Int) := h3
          simp [Instr.sliceBounds, hx, run_sliceBound, h0, hl]
        · cases h1
    | some y =>
      simp only [boundV] at h2
      split at h2
      · rename_i k j hy
        injection h2 with h2; subst h2
        have hj : 0 ≤ j := by omega
        cases lo with
        | none =>
          simp only [boundV, Option.some.injEq] at h1
          subst h1
          simp [Instr.sliceBounds, hy, run_sliceBound, hj, h4]
        | some x =>
          simp only [boundV] at h1
          split at h1
          · rename_i k2 i hx
            injection h1 with h1; subst h1
            simp [Instr.sliceBounds, hx, hy, run_sliceBound, hj, h4, h0, h3, eh]
          · cases h1
      · cases h2
  simp only [Instr.sliceAt, Instr.slice, Sem.run_bind, hu, Result.andThen_ok, hb, hz, Sem.run_pure, partV]
theorem boundA_eq {ρ : Operand → Option AV} {σ : Operand → Value} {d : Int} {h : GH} (hρ : ∀ z x, ρ z = some x → Rp h x (σ z)) {o : Option Operand} {i : Int} (hb : boundA ρ d o = some i) : boundV σ d o = some i := by
  cases o with
  | none => exact hb
  | some x =>
    simp only [boundA] at hb
    split at hb
    · rename_i k j hx
      have := hρ _ _ hx
      rw [Rp_v] at this
      simp only [boundV, this.1]
      exact hb
    · cases hb
theorem part_rp {h : GH} {sz : Nat} {xs : List AV} {own : Option Value} {v : Value} (r : Rp h (.sl sz xs own) v) {l n : Nat} (h1 : l ≤ n) (h2 : n ≤ xs.length) : Rp h (.sl sz ((xs.drop l).take (n - l)) none) (partV sz l n v) := by
  rw [Rp_sl] at r
  obtain ⟨a, c, rfl, g2, _, g4⟩ := r
  rw [Rp_sl]
  have hlen : ((xs.drop l).take (n - l)).length = n - l := by simp; omega
  refine ⟨if c = l then a else a.map (·.add (l * sz)), c - l, by rw [hlen]; rfl, by rw [hlen]; omega, trivial, fun hn => ?_⟩
  have hnl : l < n := by
    rcases Nat.lt_or_ge l n with h | h
    · exact h
    · exact (hn (List.length_eq_zero_iff.1 (by rw [hlen]; omega))).elim
  obtain ⟨b, o, rfl, g5⟩ := g4 (fun e => by subst e; simp at h2; omega)
  refine ⟨b, o + l * sz, ?_, RpE.sub l (n - l) g5⟩
  rw [if_neg (by omega)]
  simp only [Option.map_some, Addr.add]
  split
  · rename_i h0; rw [h0]; rfl
  · rfl
section
variable {K : AC} {k : List It} {E : AEnv} {Λ : List AEnt}
theorem slice_run {o : Oper} {ks : List (Nat × Bool)} {t el : TypeId} {ti ei : TI} {x : Operand} {lo hi : Option Operand} {xv : AV} {xs : List AV} {own : Option Value} {l n : Int} {h : GH} {e : Env}
    (ho : o.op = .slice t x lo hi none) (hx : E.ev K.gs ks x = some xv) (ht : K.S.get t = some ti) (hdd : ti.d = .slice el) (he : K.S.get el = some ei) (hs : slOf ei.size xv = some (xs, own))
    (hlo : boundA (E.ev K.gs ks) 0 lo = some l) (hhi : boundA (E.ev K.gs ks) xs.length hi = some n) (h0 : 0 ≤ l) (h1 : l ≤ n) (h2 : n ≤ xs.length) (hl : K.h0.le h) (r : RpEnv h E e) :
    ∃ y, Rp h (.sl ei.size ((xs.drop l.toNat).take (n.toNat - l.toNat)) none) y ∧ ∀ a w, Ag K.n K.D e a → keysOk a ks → (execOp a.eval o).run K.P w = .ok (.value y) w := by
  obtain ⟨v1, e1, f1⟩ := r.ev (K.hgs.mono hl) _ hx
  have f1 := slOf_rp hs f1
  refine ⟨partV ei.size l.toNat n.toNat v1, part_rp f1 (by omega) (by omega), fun a w g hk => ?_⟩
  rw [Rp_sl] at f1
  obtain ⟨a1, c, rfl, g2, _⟩ := f1
  have hρ : ∀ z x, E.ev K.gs ks z = some x → Rp h x (a.eval z) := fun z x hz => by
    obtain ⟨v2, e2, f2⟩ := r.ev (K.hgs.mono hl) _ hz
    rw [g.ev hk e2]; exact f2
  have := run_sub (P := K.P) (w := w) (n := xs.length) (c := c) (a := a1) K.ok ht hdd he (boundA_eq hρ hlo) (boundA_eq hρ hhi) h0 h1 (by omega) (fun _ => g2)
  unfold execOp
  rw [ho]
  simp only [g.ev hk e1, Option.map_none, Sem.run_bind, this, Result.andThen_ok, Sem.run_pure]
theorem A.slice {all : Array Oper} {o : Oper} {l' : List Oper} {ks : List (Nat × Bool)} {t el : TypeId} {ti ei : TI} {x : Operand} {lo hi : Option Operand} {xv : AV} {xs : List AV} {own : Option Value} {l n : Int} {E' : AEnv} {ys : List AV}
    (hg : gyesA E all o.guard = some ks) (ho : o.op = .slice t x lo hi none) (hx : E.ev K.gs ks x = some xv) (ht : K.S.get t = some ti) (hdd : ti.d = .slice el) (he : K.S.get el = some ei) (hs : slOf ei.size xv = some (xs, own))
    (hlo : boundA (E.ev K.gs ks) 0 lo = some l) (hhi : boundA (E.ev K.gs ks) xs.length hi = some n) (h0 : 0 ≤ l) (h1 : l ≤ n) (h2 : n ≤ xs.length) (hy : (xs.drop l.toNat).take (n.toNat - l.toNat) = ys) (hput : E.put K.n none o.dst (.sl ei.size ys none) = some E')
    (next : A K (.ops all l' :: k) E' Λ) : A K (.ops all (o :: l') :: k) E Λ := by
  subst hy
  refine A.valueY hg (fun h e L hl r q => ?_) hput next
  obtain ⟨y, f1, f2⟩ := slice_run (K := K) ho hx ht hdd he hs hlo hhi h0 h1 h2 hl r
  exact ⟨y, f1, fun a w g s hk => f2 a w g hk⟩
end
section
variable {K : AC} {all : Array Oper} {m : Nat} {k : List It} {pubs : Nat → List Nat} {Y : Ua} {π : List Nat} {E : AEnv} {Λ : List AEnt} {D : Da}
end
def Lent (P : Program) (gs : Ua) (f : FuncId) (args : List AV) (Λ : List AEnt) (x : AV) : Prop :=
  ∀ w0 h vs L F, GsOk h gs → RpC h args vs → RpL h Λ L → Does P w0 f vs h (L ++ F) fun v h' L' => L' = L ++ F ∧ h.le h' ∧ Rp h' x v
section
variable {K : AC} {k : List It} {E : AEnv} {Λ : List AEnt}
theorem A.rowRaw {z : Value} {sz : Nat} {l : List AV} (hm : AEnt.row sz z l ∈ Λ) (next : ∀ a c, z = .slice a l.length c → l.length ≤ c → A K k E Λ) : A K k E Λ := by
  refine ⟨fun h e L hl r q => ?_⟩
  obtain ⟨L1, h1, ⟨p, ⟨a, c, zs, e1, e2, _⟩, _⟩⟩ := q.mem hm
  exact (next a c e1 e2).run h e L hl r q
theorem A.makeV {all : Array Oper} {o : Oper} {l : List Oper} {ks : List (Nat × Bool)} {t el : TypeId} {ti ei : TI} {y1 y2 : Operand} {k1 k2 : IntKind} {n : Int} {d : Nat} {x : AV}
    (hg : gyesA E all o.guard = some ks) (ho : o.op = .makeSlice t y1 y2) (h1 : E.ev K.gs ks y1 = some (.v (.int k1 n))) (h2 : E.ev K.gs ks y2 = some (.v (.int k2 n))) (ht : K.S.get t = some ti) (hdd : ti.d = .slice el) (he : K.S.get el = some ei)
    (hsz : Nat.blt 0 ei.size = true) (hlen : Nat.beq ei.zero.length ei.size = true) (hz : zeroA ei = some x) (hd : o.dst = some d) (hc : okPutA K.n E d = true) (h0 : 0 ≤ n) (hb : (ei.bytes : Int) * n ≤ 140737488355328) (hn : n ≤ 9223372036854775807)
    (next : ∀ (a : Option Addr) (c : Nat), n.toNat ≤ c → A K (.ops all l :: k) ⟨(d, .ms (.slice a n.toNat c) ei.size n.toNat) :: E.us, E.cs⟩ (.row ei.size (.slice a n.toNat c) (List.replicate n.toNat x) :: Λ)) : A K (.ops all (o :: l) :: k) E Λ :=
  A.make hg ho h1 h2 ht hdd he hsz hlen hz hd hc h0 hb hn fun z => A.rowRaw (List.mem_cons_self ..) fun a c e1 e2 => by
    rw [List.length_replicate] at e1 e2
    subst e1
    exact next a c e2
end
end Go.Tp
/-! TqO -/
namespace Go.Tp
open Go Go.RowKit
set_option linter.unusedVariables false
set_option linter.unusedSimpArgs false
abbrev Wt {H : Type} (P : Program) (t : TypeId) (d : DataW H) : Prop := (DataW.weights P t d).all (· ≤ reachBytes) = true
theorem Wt_all {H : Type} {P : Program} {e : TypeId} : ∀ {l : List (DataW H)}, (DataW.weightsAll P e l).all (· ≤ reachBytes) = true → ∀ d, d ∈ l → Wt P e d
  | [], _, d, hd => by cases hd
  | x :: r, h, d, hd => by
    simp only [DataW.weightsAll, List.all_append, Bool.and_eq_true] at h
    rcases List.mem_cons.1 hd with rfl | hd
    · exact h.1
    · exact Wt_all h.2 d hd
theorem Wt_each {H : Type} {P : Program} : ∀ {ts : List TypeId} {l : List (DataW H)}, (DataW.weightsEach P ts l).all (· ≤ reachBytes) = true → ∀ (i : Nat) t d, ts[i]? = some t → l[i]? = some d → Wt P t d
  | [], _, _, i, t, d, ht, _ => by simp at ht
  | _ :: _, [], _, i, t, d, _, hd => by simp at hd
  | u :: ts, x :: r, h, i, t, d, ht, hd => by
    simp only [DataW.weightsEach, List.all_append, Bool.and_eq_true] at h
    cases i with
    | zero => simp at ht hd; subst ht; subst hd; exact h.1
    | succ i => exact Wt_each h.2 i t d (by simpa using ht) (by simpa using hd)
section
variable {H : Type} {enc : TypeId × Value → H} {P : Program} {W : World} {base : Nat} {sp : Nat → Bool} {hd : Bool}
theorem hOf_cells {b o : Nat} {cs : List Value} (hc : ∀ i, i < cs.length → W.cell? ⟨b, o + i, none⟩ = cs[i]?) (h1 : allOne cs = true) : atH (hOf W) b o cs := hOf_at hc (allOne_mem h1)
theorem RpE_build {α : Type} (en : α → AV) (Q : α → Prop) {h : GH} {sz b : Nat} : ∀ (m o : Nat), (∀ i, i < m → ∃ a z, Q a ∧ Rp h (en a) z ∧ (cellsL z).length = sz ∧ atH h b (o + i * sz) (cellsL z)) →
    ∃ l : List α, l.length = m ∧ (∀ a, a ∈ l → Q a) ∧ RpE h sz (l.map en) b o
  | 0, o, _ => ⟨[], rfl, fun a ha => (by cases ha), RpE_nil⟩
  | m + 1, o, hx => by
    obtain ⟨a, z, q, r, hl, ha⟩ := hx 0 (by omega)
    obtain ⟨l, h1, h2, h3⟩ := RpE_build en Q m (o + sz) (fun i hi => by
      obtain ⟨a, z, q, r, hl, ha⟩ := hx (i + 1) (by omega)
      exact ⟨a, z, q, r, hl, by rw [show o + sz + i * sz = o + (i + 1) * sz by rw [Nat.succ_mul]; omega]; exact ha⟩)
    refine ⟨a :: l, by simp [h1], fun y hy => ?_, ?_⟩
    · rcases List.mem_cons.1 hy with rfl | hy
      · exact q
      · exact h2 y hy
    · rw [List.map_cons, RpE_cons]
      exact ⟨⟨z, r, hl, by simpa using ha⟩, h3⟩
theorem open_sl {α : Type} (en : α → AV) (Q : α → Prop) {t e : TypeId} {sz bt fuel : Nat} {cs : List Value} {x : DataW H × List MemPlace} (ht : P.underlying t = some (.slice e)) (hsz : P.cellsOf e = sz) (hbt : P.bytesOf e = bt) (h0 : 0 < sz)
    (hel : ∀ m, m < fuel → ∀ cs y, cs.length = sz → DataW.trod enc P W base sp hd m e cs = some y → Wt P e y.1 → ∃ a z, Q a ∧ Rp (hOf W) (en a) z ∧ cellsL z = cs ∧ allOne cs = true)
    (h : DataW.trod enc P W base sp hd fuel t cs = some x) (hw : Wt P t x.1) : ∃ (v : Value) (l : List α), cs = [v] ∧ (∀ a, a ∈ l → Q a) ∧ Rp (hOf W) (.sl sz (l.map en) none) v ∧ l.length * bt ≤ reachBytes := by
  rcases DataW.trod_slice ht h with ⟨rfl, _⟩ | ⟨a, len, cap, elems, rest, n, rfl, rfl, hx, hb, hl, hc, hlen, hall, _⟩
  · exact ⟨_, [], rfl, fun a ha => (by cases ha), nil_rp sz, by simp⟩
  · rw [hx] at hw
    simp only [Wt, DataW.weights, ht, List.all_cons, List.all_append, Bool.and_eq_true, decide_eq_true_eq, List.length_map] at hw
    obtain ⟨hw1, hw2, _⟩ := hw
    have hbd : len * bt ≤ reachBytes := by rw [hbt] at hw1; rw [← hlen]; exact Nat.le_trans (Nat.mul_le_mul_right _ (by omega)) hw1
    have key : ∀ i, i < len → ∃ (cs : List Value) (y : DataW H × List MemPlace), W.cells? base (a.add (i * sz)) sz = some cs ∧ DataW.trod enc P W base sp hd n e cs = some y ∧ Wt P e y.1 := fun i hi => by
      have := hall i hi
      rw [hsz, List.getElem?_eq_getElem (by omega)] at this
      obtain ⟨cs', k1, k2⟩ := Option.bind_eq_some_iff.1 this
      exact ⟨cs', _, k1, k2, Wt_all hw2 _ (List.mem_map_of_mem (List.getElem_mem ..))⟩
    by_cases hz : len = 0
    · subst hz
      refine ⟨_, [], rfl, fun a ha => (by cases ha), ?_, by simp⟩
      rw [Rp_sl]; exact ⟨some a, cap, rfl, Nat.zero_le _, trivial, fun hn => (hn rfl).elim⟩
    · obtain ⟨b, off, spot⟩ := a
      have hspot : spot = none := by
        obtain ⟨cs', y, k1, k2, _⟩ := key 0 (by omega)
        obtain ⟨_, k3, k4⟩ := World.cells?_some k1
        have := k4 0 (by omega)
        rw [List.getElem?_eq_getElem (by omega)] at this
        simpa [Addr.add] using World.cell?_spot this
      subst hspot
      obtain ⟨l, h1, h2, h3⟩ := RpE_build (h := hOf W) (b := b) (sz := sz) en Q len off (fun i hi => by
        obtain ⟨cs', y, k1, k2, k5⟩ := key i hi
        obtain ⟨_, k3, k4⟩ := World.cells?_some k1
        obtain ⟨a, z, q, r, e1, e2⟩ := hel n (by omega) cs' y k3 k2 k5
        subst e1
        refine ⟨a, z, q, r, k3, hOf_cells (fun j hj => ?_) e2⟩
        have := k4 j (by omega)
        rwa [add_norm, add_norm] at this)
      refine ⟨_, l, rfl, h2, ?_, by rw [h1]; exact hbd⟩
      rw [Rp_sl, List.length_map]
      exact ⟨some ⟨b, off, none⟩, cap, by rw [h1], by rw [h1]; exact hl, trivial, fun _ => ⟨b, off, rfl, h3⟩⟩
theorem open_st {t : TypeId} {fs : Array Field} {n fuel : Nat} {cs : List Value} {x : DataW H × List MemPlace} (ht : P.underlying t = some (.struct fs)) (hn : P.cellsOf t = n)
    (h : DataW.trod enc P W base sp hd fuel t cs = some x) (hw : Wt P t x.1) : ∃ m, m < fuel ∧ cs.length = n ∧
      ∀ (i : Nat) (f : Field), fs[i]? = some f → ∃ y, DataW.trod enc P W base sp hd m f.type ((cs.drop f.offset).take (P.cellsOf f.type)) = some y ∧ Wt P f.type y.1 := by
  obtain ⟨xs, m, rfl, rfl, hlen, hxs, hf⟩ := DataW.trod_struct ht h
  refine ⟨m, Nat.lt_succ_self _, by rw [hlen, hn], fun i f hi => ?_⟩
  have h1 := hf i f hi
  have hlt : i < xs.length := by
    rw [hxs]
    rcases Nat.lt_or_ge i fs.size with h | h
    · exact h
    · rw [Array.getElem?_eq_none h] at hi; cases hi
  rw [List.getElem?_eq_getElem hlt] at h1
  refine ⟨_, h1, ?_⟩
  simp only [Wt, DataW.weights, ht] at hw
  refine Wt_each hw i f.type _ ?_ ?_
  · rw [List.getElem?_map, Array.getElem?_toList, hi]; rfl
  · rw [List.getElem?_map, List.getElem?_eq_getElem hlt]; rfl
theorem open_i64 {t : TypeId} {fuel : Nat} {cs : List Value} {x : DataW H × List MemPlace} (ht : P.underlying t = some (.int .i64)) (h : DataW.trod enc P W base sp hd fuel t cs = some x) : ∃ n, cs = [.int .i64 n] ∧ i64 n := by
  obtain ⟨n, h1, _, h2⟩ := DataW.trod_int ht h; exact ⟨n, h1, wf_i64 h2⟩
theorem pure_true {f : FuncId} {fn : Func} {s : ChangeSpec} {gs' : Ua} {args : List Value} {as : List AV} {ds gs : List (DataW H)} {before : List MemPlace} {tb : TypeId}
    (hl : laidOutB P = true) (hr : (fn.params.toList.all fun t => P.readableRec t && decide (t < P.types.size)) = true) (hrt : fn.resultTypes = #[tb]) (hb : P.underlying tb = some .bool) (hv : s.vars = [])
    (hs : s.fn H (ds ++ gs) = { results := [.lit (.bool true)], args := ds }) (hW : DataW.Whole enc P fn.params.toList s.vars false W args ds gs before)
    (hg : GsOk (hOf W) gs') (ha : RpC (hOf W) as args) (hf : Pure P gs' f as (.v (.bool true))) :
    Calls P f ⟨args⟩ W fun e W' => ∃ v, e = .returned v ∧ s.post enc P fn false true false false W ⟨args⟩ v W' := by
  refine calls_true (h := hOf W) hl hr hrt hb hv hs hW (hOf_st W) ?_
  refine (hf W (hOf W) args [] [] hg ha rfl).mono ?_
  rintro v h' L' ⟨x, Λ', L1, ⟨rfl, rfl⟩, e2, e3, e4, rfl⟩
  rw [Rp_v] at e2
  have e4 : L1 = [] := e4
  subst e4
  exact ⟨rfl, e3, e2.1⟩
end
end Go.Tp
