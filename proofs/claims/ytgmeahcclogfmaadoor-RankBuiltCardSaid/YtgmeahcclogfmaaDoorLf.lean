/-
  This project's own program logic, part Lf (Tq4): generic texts, for any program. Conditions: as each theorem says.
-/
import Derived.Test.YtgmeahcclogfmaaDoorLe
/-! Tq4 -/
namespace Go.Tp
open Go Go.RowKit
set_option linter.unusedVariables false
set_option linter.unusedSimpArgs false
theorem updA_one : ∀ {l : List AV} {k : Nat} {v : AV}, k < l.length → updA l k [v] = some (l.set k v)
  | c :: cs, 0, v, _ => by cases cs <;> simp only [updA, List.set]
  | c :: cs, k + 1, v, h => by simp only [updA, updA_one (l := cs) (k := k) (v := v) (by simpa using h), List.set]
theorem ldA_arr {ti : TI} {l : List AV} {o : Nat} {y : AV} (ha : ti.agg = false) (hy : l[o]? = some y) : ldA ti (.ag l) o = some y := by
  simp only [ldA, cellsA, partA, ha, nthL_eq, hy]
theorem stA_arr {ti : TI} {l : List AV} {o : Nat} {v : AV} (hs : ti.size = 1) (h1 : v.one = true) (hc : cellsA v = some [v]) (ho : o < l.length) : stA ti (.ag l) o v = some (.ag (l.set o v)) := by
  have h2 : oneA [v] = true := by simp only [oneA, h1]
  have h3 : cellsA (.ag l) = some l := rfl
  unfold stA
  simp only [hc, hs, h2, h3, updA_one ho, likeA]
  rfl
def cell1 : AV → Bool
  | .ag _ => false
  | .tp _ => false
  | x => x.one
theorem cell1_eq {v : AV} (h : cell1 v = true) : v.one = true ∧ cellsA v = some [v] := by
  cases v with
  | ag l => cases h
  | tp l => cases h
  | _ => exact ⟨h, rfl⟩
section
variable {K : AC} {k k' : List It} {E E' : AEnv} {Λ Λ' : List AEnt}
def xaS (S : TT) (gs : Ua) (n : Nat) (k : List It) (E : AEnv) : Option (Nat × Nat × Nat × Int × (Nat → Option (List It × AEnv))) := match k with
  | .ops all (o :: l) :: k => match gyesA E all o.guard with
    | some ks => match o.op with
      | .indexAddr t x ix => match E.ev gs ks x with
        | some (.v (.pointer (some ⟨b, off, none⟩))) => match E.ev gs ks ix with
          | some (.v (.int _ i)) => match S.get t with
            | some ti => match ti.d with
              | .array m el => match S.get el with
                | some ei => some (off, ei.size, m, i, fun p => match E.put n none o.dst (.v (.pointer (some ⟨b, p, none⟩))) with
                  | some E' => some (.ops all l :: k, E')
                  | none => none)
                | none => none
              | _ => none
            | none => none
          | _ => none
        | _ => none
      | _ => none
    | none => none
  | _ => none
theorem A.xa {off sz m p : Nat} {i : Int} {f : Nat → Option (List It × AEnv)} (h : xaS K.S K.gs K.n k E = some (off, sz, m, i, f)) (h0 : 0 ≤ i) (h1 : i < m) (hp : off + i.toNat * sz = p) (hf : f p = some (k', E')) (next : A K k' E' Λ) : A K k E Λ := by
  unfold xaS at h
  split at h
  · split at h
    · rename_i ks hg
      split at h
      · rename_i t x ix ho
        split at h
        · rename_i b off' hx
          split at h
          · rename_i kk i' hi
            split at h
            · rename_i ti ht
              split at h
              · rename_i m' el hd
                split at h
                · rename_i ei he
                  injection h with h; injection h with e1 h; injection h with e2 h; injection h with e3 h; injection h with e4 e5
                  subst e1; subst e2; subst e3; subst e4; subst e5
                  simp only at hf
                  split at hf
                  · rename_i E1 hput
                    injection hf with hf; injection hf with e1 e2; subst e1; subst e2
                    subst hp
                    exact A.indexArr hg ho hx hi ht hd he hput h0 h1 next
                  · cases hf
                · cases h
              · cases h
            · cases h
          · cases h
        · cases h
      · cases h
    · cases h
  · cases h
def raS (S : TT) (gs : Ua) (n : Nat) (k : List It) (E : AEnv) : Option (Nat × Nat × (AV → Option (List It × AEnv))) := match k with
  | .ops all (o :: l) :: k => match gyesA E all o.guard with
    | some ks => match o.op with
      | .load t p => match E.ev gs ks p with
        | some (.v (.pointer (some ⟨b, off, none⟩))) => match S.get t with
          | some ti => match ti.agg with
            | false => some (b, off, fun y => match E.put n none o.dst y with
              | some E' => some (.ops all l :: k, E')
              | none => none)
            | true => none
          | none => none
        | _ => none
      | _ => none
    | none => none
  | _ => none
theorem A.ra {b off : Nat} {f : AV → Option (List It × AEnv)} {l : List AV} {y : AV} (h : raS K.S K.gs K.n k E = some (b, off, f)) [z : AAt Λ b (.ag l)] (hy : l[off]? = some y) (hf : f y = some (k', E')) (next : A K k' E' Λ) : A K k E Λ := by
  unfold raS at h
  split at h
  · split at h
    · rename_i ks hg
      split at h
      · rename_i t p ho
        split at h
        · rename_i b' off' hp
          split at h
          · rename_i ti ht
            split at h
            · rename_i ha
              injection h with h; injection h with e1 h; injection h with e2 e3
              subst e1; subst e2; subst e3
              simp only at hf
              split at hf
              · rename_i E1 hput
                injection hf with hf; injection hf with e1 e2; subst e1; subst e2
                exact A.loadY hg ho hp ht (ldA_arr ha hy) hput next
              · cases hf
            · cases h
          · cases h
        · cases h
      · cases h
    · cases h
  · cases h
def waS (S : TT) (gs : Ua) (k : List It) (E : AEnv) : Option (Nat × Nat × AV × List It) := match k with
  | .ops all (o :: l) :: k => match gyesA E all o.guard with
    | some ks => match o.op with
      | .store t p y => match E.ev gs ks p with
        | some (.v (.pointer (some ⟨b, off, none⟩))) => match E.ev gs ks y with
          | some v => match S.get t with
            | some ti => match Nat.beq ti.size 1 with
              | true => match o.dst with
                | none => some (b, off, v, .ops all l :: k)
                | some _ => none
              | false => none
            | none => none
          | none => none
        | _ => none
      | _ => none
    | none => none
  | _ => none
theorem A.wa {b off : Nat} {v : AV} {l l' : List AV} (h : waS K.S K.gs k E = some (b, off, v, k')) (hv : cell1 v = true) [z : AAt Λ b (.ag l)] (ho : off < l.length) (hl : l.set off v = l') [u : AUp Λ b (.ag l) (.ag l') Λ'] (next : A K k' E Λ') : A K k E Λ := by
  unfold waS at h
  split at h
  · split at h
    · rename_i ks hg
      split at h
      · rename_i t p y hop
        split at h
        · rename_i b' off' hp
          split at h
          · rename_i v' hy
            split at h
            · rename_i ti ht
              split at h
              · rename_i hs
                split at h
                · rename_i hd
                  injection h with h; injection h with e1 h; injection h with e2 h; injection h with e3 e4
                  subst e1; subst e2; subst e3; subst e4; subst hl
                  have hs := Nat.eq_of_beq_eq_true hs
                  exact A.store hg hop hp hy ht (stA_arr hs (cell1_eq hv).1 (cell1_eq hv).2 ho) (j := u) hd next
                · cases h
              · cases h
            · cases h
          · cases h
        · cases h
      · cases h
    · cases h
  · cases h
def evS (S : TT) (gs : Ua) (n : Nat) (k : List It) (E : AEnv) : Option (List AV × Nat × Nat × Bool × Int × (AV → Option (List It × AEnv))) := match k with
  | .ops all (o :: l) :: k => match gyesA E all o.guard with
    | some ks => match o.op with
      | .index t x ix => match E.ev gs ks x with
        | some (.ag cs) => match E.ev gs ks ix with
          | some (.v (.int _ i)) => match S.get t with
            | some ti => match ti.d with
              | .array m el => match S.get el with
                | some ei => some (cs, m, ei.size, ei.agg, i, fun y => match E.put n none o.dst y with
                  | some E' => some (.ops all l :: k, E')
                  | none => none)
                | none => none
              | _ => none
            | none => none
          | _ => none
        | _ => none
      | _ => none
    | none => none
  | _ => none
theorem A.ev {cs : List AV} {m sz : Nat} {i : Int} {y : AV} {f : AV → Option (List It × AEnv)} (h : evS K.S K.gs K.n k E = some (cs, m, sz, false, i, f)) (h0 : 0 ≤ i) (h1 : i < m) (hy : cs[i.toNat * sz]? = some y) (hf : f y = some (k', E')) (next : A K k' E' Λ) : A K k E Λ := by
  unfold evS at h
  split at h
  · split at h
    · rename_i ks hg
      split at h
      · rename_i t x ix ho
        split at h
        · rename_i cs' hx
          split at h
          · rename_i kk i' hi
            split at h
            · rename_i ti ht
              split at h
              · rename_i m' el hd
                split at h
                · rename_i ei he
                  injection h with h; injection h with e1 h; injection h with e2 h; injection h with e3 h; injection h with e6 h; injection h with e4 e5
                  subst e1; subst e2; subst e3; subst e4; subst e5
                  simp only at hf
                  split at hf
                  · rename_i E1 hput
                    injection hf with hf; injection hf with e1 e2; subst e1; subst e2
                    refine A.valueY hg (fun h e L hl r q => ?_) hput next
                    obtain ⟨v1, g1, f1⟩ := r.ev (K.hgs.mono hl) _ hx
                    obtain ⟨v2, g2, f2⟩ := r.ev (K.hgs.mono hl) _ hi
                    rw [Rp_v] at f2; rw [f2.1] at g2
                    rw [Rp_ag] at f1
                    obtain ⟨vs, rfl, f3⟩ := f1
                    have hpa : partA ei cs' (i'.toNat * ei.size) = some y := by simp only [partA, e6, nthL_eq, hy]
                    obtain ⟨v, f4, f5⟩ := partA_rp f3 hpa
                    refine ⟨v, f5, fun ac w g s hk => ?_⟩
                    have hu : (underlying t).run K.P w = .ok (.array m' el) w := by rw [run_underlying (TT.Ok.get K.ok ht), hd]
                    have hz : (sizeOf el).run K.P w = .ok ei.size w := run_sizeOf (TT.Ok.get K.ok he)
                    have hp := run_part (P := K.P) (w := w) (TT.Ok.get K.ok he) f4
                    unfold execOp
                    rw [ho]
                    simp only [g.ev hk g1, g.ev hk g2, Instr.index, asIntOf, Sem.run_bind, hu, Sem.run_pure, Result.andThen_ok, if_pos (And.intro h0 h1), hz, hp]
                  · cases hf
                · cases h
              · cases h
            · cases h
          · cases h
        · cases h
      · cases h
    · cases h
  · cases h
/-! ### all of an array that is written no more, as a slice -/
theorem allOneA {l : List AV} (h : oneA l = true) {g : GH} {vs : List Value} (r : RpC g l vs) {b : Nat} : ∀ {o : Nat}, atH g b o vs → RpE g 1 l b o := by
  induction l generalizing vs with
  | nil => intro o _; simp only [RpE]
  | cons x l ih =>
    intro o ha
    rw [RpC_cons] at r
    obtain ⟨v, vs', rfl, r1, r2⟩ := r
    have hx : x.one = true := oneA_mem h x (List.mem_cons_self ..)
    have hl : oneA l = true := by
      simp only [oneA, hx] at h
      exact h
    have hc := cellsL_one (r1.one hx)
    simp only [RpE]
    refine ⟨⟨v, r1, by rw [hc]; rfl, by rw [hc]; intro i u hu; match i, hu with | 0, hu => exact ha 0 u (by simpa using hu)⟩, ih hl r2 (fun i u hu => by have := ha (i + 1) u (by simpa using hu); rw [show o + 1 + i = o + (i + 1) by omega]; exact this)⟩
def saS (S : TT) (gs : Ua) (n : Nat) (k : List It) (E : AEnv) : Option (List AV × Nat × (AV → Option (List It × AEnv))) := match k with
  | .ops all (o :: l) :: k => match gyesA E all o.guard with
    | some ks => match o.op with
      | .slice t x none none none => match E.ev gs ks x with
        | some (.pe _ (.ag cs)) => match S.get t with
          | some ti => match ti.d with
            | .array m el => match S.get el with
              | some ei => match Nat.beq ei.size 1 with
                | true => some (cs, m, fun y => match E.put n none o.dst y with
                  | some E' => some (.ops all l :: k, E')
                  | none => none)
                | false => none
              | none => none
            | _ => none
          | none => none
        | _ => none
      | _ => none
    | none => none
  | _ => none
theorem A.sa {cs : List AV} {m : Nat} {f : AV → Option (List It × AEnv)} (h : saS K.S K.gs K.n k E = some (cs, m, f)) (hm : cs.length = m) (h1 : oneA cs = true) (hf : f (.sl 1 cs none) = some (k', E')) (next : A K k' E' Λ) : A K k E Λ := by
  unfold saS at h
  split at h
  · split at h
    · rename_i ks hg
      split at h
      · rename_i t x ho
        split at h
        · rename_i sz cs' hx
          split at h
          · rename_i ti ht
            split at h
            · rename_i m' el hd
              split at h
              · rename_i ei he
                split at h
                · rename_i hs
                  injection h with h; injection h with e1 h; injection h with e2 e3
                  subst e1; subst e2; subst e3
                  simp only at hf
                  split at hf
                  · rename_i E1 hput
                    injection hf with hf; injection hf with e1 e2; subst e1; subst e2
                    refine A.valueY hg (fun h e L hl r q => ?_) hput next
                    obtain ⟨v1, g1, f1⟩ := r.ev (K.hgs.mono hl) _ hx
                    rw [Rp_pe] at f1
                    obtain ⟨b, o', z, rfl, f2, f3, f4⟩ := f1
                    rw [Rp_ag] at f2
                    obtain ⟨vs, rfl, f5⟩ := f2
                    have hlen : vs.length = cs'.length := f5.len
                    refine ⟨.slice (some ⟨b, o', none⟩) cs'.length cs'.length, Rp_sl.2 ⟨_, _, rfl, Nat.le_refl _, trivial, fun _ => ⟨b, o', rfl, allOneA h1 f5 f4⟩⟩, fun ac w g s hk => ?_⟩
                    have hu : (underlying t).run K.P w = .ok (.array m' el) w := by rw [run_underlying (TT.Ok.get K.ok ht), hd]
                    have hz : (sizeOf el).run K.P w = .ok ei.size w := run_sizeOf (TT.Ok.get K.ok he)
                    have hb : (Instr.sliceBounds false m' m' none none none).run K.P w = .ok (0, m', m') w := by
                      simp [Instr.sliceBounds]
                    unfold execOp
                    rw [ho]
                    simp only [g.ev hk g1, Option.map_none, Instr.sliceAt, Instr.sureAddr, Sem.run_bind, hu, Sem.run_pure, Result.andThen_ok, hb, hz, Nat.sub_zero, hm]
                    congr 1
                    congr 1
                    split
                    · rfl
                    · simp [Addr.add]
                  · cases hf
                · cases h
              · cases h
            · cases h
          · cases h
        · cases h
      · cases h
    · cases h
  · cases h
end
section
variable {K : AC} {all : Array Oper} {m : Nat} {k : List It} {pubs : Nat → List Nat} {Y : Ua} {π π' : List Nat} {E E' : AEnv} {Λ : List AEnt} {D : Da}
theorem WA.indexArr {i0 : Nat} {o : Oper} {ks : List (Nat × Bool)} {t el : TypeId} {ti ei : TI} {x ix : Operand} {b off n : Nat} {kk : IntKind} {i : Int} {E' : AEnv}
    (hi0 : nthL all.toList i0 = some o) (hg : gyesA E all o.guard = some ks) (ho : o.op = .indexAddr t x ix) (hx : E.ev K.gs ks x = some (.v (.pointer (some ⟨b, off, none⟩)))) (hi : E.ev K.gs ks ix = some (.v (.int kk i))) (ht : K.S.get t = some ti) (hdd : ti.d = .array n el) (he : K.S.get el = some ei)
    (hput : E.put K.n none o.dst (.v (.pointer (some ⟨b, off + i.toNat * ei.size, none⟩))) = some E') (h0 : 0 ≤ i) (h1 : i < n) (next : WA K all m k pubs Y π E' Λ D) : WA K all m k pubs Y (i0 :: π) E Λ D := by
  refine ⟨fun h e L Es hl r q d => ?_⟩
  obtain ⟨v1, e1, f1⟩ := r.ev (K.hgs.mono hl) _ hx
  obtain ⟨v2, e2, f2⟩ := r.ev (K.hgs.mono hl) _ hi
  rw [Rp_v] at f1 f2; rw [f1.1] at e1; rw [f2.1] at e2
  obtain ⟨e', e4, e5⟩ := putA_eq r hput (Rp_v.2 ⟨rfl, rfl⟩)
  have hiv : idxv K.S t (.pointer (some ⟨b, off, none⟩)) i = some (.pointer (some ⟨b, off + i.toNat * ei.size, none⟩), n) := by simp only [idxv, ht, hdd, he]
  exact WE.valueY (G := drawRg K.cfg all (L ++ K.G) pubs (YA Y) m k) hi0 (kd_index ho) (gyesA_eq r hg) (fun a w E0 g s hk => by
    have := run_idxv (P := K.cfg.P) (w := w) (kk := kk) K.ok hiv h0 h1
    unfold execOp
    rw [ho]
    simp only [g.ev hk e1, g.ev hk e2, Sem.run_bind, this, Result.andThen_ok, Sem.run_pure]) e4 (next.run h e' L Es hl e5 q d)
def wxaS (S : TT) (gs : Ua) (n : Nat) (all : Array Oper) (π : List Nat) (E : AEnv) : Option (Nat × Nat × Nat × Int × (Nat → Option (List Nat × AEnv))) := match π with
  | j :: π => match nthL all.toList j with
    | some o => match gyesA E all o.guard with
      | some ks => match o.op with
        | .indexAddr t x ix => match E.ev gs ks x with
          | some (.v (.pointer (some ⟨b, off, none⟩))) => match E.ev gs ks ix with
            | some (.v (.int _ i)) => match S.get t with
              | some ti => match ti.d with
                | .array m el => match S.get el with
                  | some ei => some (off, ei.size, m, i, fun p => match E.put n none o.dst (.v (.pointer (some ⟨b, p, none⟩))) with
                    | some E' => some (π, E')
                    | none => none)
                  | none => none
                | _ => none
              | none => none
            | _ => none
          | _ => none
        | _ => none
      | none => none
    | none => none
  | [] => none
theorem WA.xa {off sz n p : Nat} {i : Int} {f : Nat → Option (List Nat × AEnv)} (h : wxaS K.S K.gs K.n all π E = some (off, sz, n, i, f)) (h0 : 0 ≤ i) (h1 : i < n) (hp : off + i.toNat * sz = p) (hf : f p = some (π', E')) (next : WA K all m k pubs Y π' E' Λ D) : WA K all m k pubs Y π E Λ D := by
  unfold wxaS at h
  split at h
  · split at h
    · rename_i o hj
      split at h
      · rename_i ks hg
        split at h
        · rename_i t x ix ho
          split at h
          · rename_i b off' hx
            split at h
            · rename_i kk i' hi
              split at h
              · rename_i ti ht
                split at h
                · rename_i m' el hd
                  split at h
                  · rename_i ei he
                    injection h with h; injection h with e1 h; injection h with e2 h; injection h with e3 h; injection h with e4 e5
                    subst e1; subst e2; subst e3; subst e4; subst e5
                    simp only at hf
                    split at hf
                    · rename_i E1 hput
                      injection hf with hf; injection hf with e1 e2; subst e1; subst e2
                      subst hp
                      exact WA.indexArr hj hg ho hx hi ht hd he hput h0 h1 next
                    · cases hf
                  · cases h
                · cases h
              · cases h
            · cases h
          · cases h
        · cases h
      · cases h
    · cases h
  · cases h
def wraS (S : TT) (gs : Ua) (n : Nat) (all : Array Oper) (π : List Nat) (E : AEnv) : Option (Nat × Nat × (AV → Option (List Nat × AEnv))) := match π with
  | j :: π => match nthL all.toList j with
    | some o => match gyesA E all o.guard with
      | some ks => match o.op with
        | .load t p => match E.ev gs ks p with
          | some (.v (.pointer (some ⟨b, off, none⟩))) => match S.get t with
            | some ti => match ti.agg with
              | false => some (b, off, fun y => match E.put n none o.dst y with
                | some E' => some (π, E')
                | none => none)
              | true => none
            | none => none
          | _ => none
        | _ => none
      | none => none
    | none => none
  | [] => none
theorem WA.ra {b off : Nat} {f : AV → Option (List Nat × AEnv)} {l : List AV} {y : AV} (h : wraS K.S K.gs K.n all π E = some (b, off, f)) [z : AAt Λ b (.ag l)] (hy : l[off]? = some y) (hf : f y = some (π', E')) (next : WA K all m k pubs Y π' E' Λ D) : WA K all m k pubs Y π E Λ D := by
  unfold wraS at h
  split at h
  · split at h
    · rename_i o hj
      split at h
      · rename_i ks hg
        split at h
        · rename_i t p ho
          split at h
          · rename_i b' off' hp
            split at h
            · rename_i ti ht
              split at h
              · rename_i ha
                injection h with h; injection h with e1 h; injection h with e2 e3
                subst e1; subst e2; subst e3
                simp only at hf
                split at hf
                · rename_i E1 hput
                  injection hf with hf; injection hf with e1 e2; subst e1; subst e2
                  exact WA.loadY hj hg ho hp ht (ldA_arr ha hy) hput next
                · cases hf
              · cases h
            · cases h
          · cases h
        · cases h
      · cases h
    · cases h
  · cases h
end
/-! ### all of an array -/
theorem subA_all : ∀ {l : List AV}, subA l 0 l.length = some l
  | [] => by simp only [List.length, subA]
  | c :: cs => by simp only [List.length, subA, subA_all (l := cs)]
theorem updA_all : ∀ {l vs : List AV}, l.length = vs.length → updA l 0 vs = some vs
  | [], [], _ => by simp only [updA]
  | c :: cs, v :: vs, h => by simp only [updA, updA_all (l := cs) (vs := vs) (by simpa using h)]
  | [], v :: vs, h => by simp at h
  | c :: cs, [], h => by simp at h
theorem ldA_all {ti : TI} {l : List AV} (ha : ti.agg = true) (hl : l.length = ti.size) : ldA ti (.ag l) 0 = some (.ag l) := by
  simp only [ldA, cellsA, partA, ha, ← hl, subA_all]
theorem stA_all {ti : TI} {l vs : List AV} (hl : l.length = ti.size) (hv : vs.length = ti.size) (ho : oneA vs = true) : stA ti (.ag l) 0 (.ag vs) = some (.ag vs) := by
  have h2 : Nat.beq (lenN vs) ti.size = true := by rw [lenN_eq, hv]; exact Nat.beq_refl _
  have h3 : cellsA (.ag l) = some l := rfl
  have h4 : cellsA (.ag vs) = some vs := rfl
  unfold stA
  simp only [h4, h2, ho, h3, updA_all (hl.trans hv.symm), likeA]
theorem oneA_all : ∀ {l : List AV}, (∀ x, x ∈ l → x.one = true) → oneA l = true
  | [], _ => rfl
  | x :: l, h => by simp only [oneA, h x (List.mem_cons_self ..), oneA_all (l := l) fun y hy => h y (List.mem_cons_of_mem _ hy)]
theorem oneA_map {α : Type} {f : α → AV} {l : List α} (h : ∀ x, (f x).one = true) : oneA (l.map f) = true := oneA_all fun x hx => by
  obtain ⟨a, _, rfl⟩ := List.mem_map.1 hx
  exact h a
section
variable {K : AC} {k k' : List It} {E E' : AEnv} {Λ Λ' : List AEnt}
def laS (S : TT) (gs : Ua) (n : Nat) (k : List It) (E : AEnv) : Option (Nat × Nat × (AV → Option (List It × AEnv))) := match k with
  | .ops all (o :: l) :: k => match gyesA E all o.guard with
    | some ks => match o.op with
      | .load t p => match E.ev gs ks p with
        | some (.v (.pointer (some ⟨b, 0, none⟩))) => match S.get t with
          | some ti => match ti.agg with
            | true => some (b, ti.size, fun y => match E.put n none o.dst y with
              | some E' => some (.ops all l :: k, E')
              | none => none)
            | false => none
          | none => none
        | _ => none
      | _ => none
    | none => none
  | _ => none
theorem A.la {b sz : Nat} {f : AV → Option (List It × AEnv)} {l : List AV} (h : laS K.S K.gs K.n k E = some (b, sz, f)) [z : AAt Λ b (.ag l)] (hl : l.length = sz) (hf : f (.ag l) = some (k', E')) (next : A K k' E' Λ) : A K k E Λ := by
  unfold laS at h
  split at h
  · split at h
    · rename_i ks hg
      split at h
      · rename_i t p ho
        split at h
        · rename_i b' hp
          split at h
          · rename_i ti ht
            split at h
            · rename_i ha
              injection h with h; injection h with e1 h; injection h with e2 e3
              subst e1; subst e2; subst e3
              simp only at hf
              split at hf
              · rename_i E1 hput
                injection hf with hf; injection hf with e1 e2; subst e1; subst e2
                exact A.loadY hg ho hp ht (ldA_all ha hl) hput next
              · cases hf
            · cases h
          · cases h
        · cases h
      · cases h
    · cases h
  · cases h
def wlS (S : TT) (gs : Ua) (k : List It) (E : AEnv) : Option (Nat × Nat × List AV × List It) := match k with
  | .ops all (o :: l) :: k => match gyesA E all o.guard with
    | some ks => match o.op with
      | .store t p y => match E.ev gs ks p with
        | some (.v (.pointer (some ⟨b, 0, none⟩))) => match E.ev gs ks y with
          | some (.ag vs) => match S.get t with
            | some ti => match o.dst with
              | none => some (b, ti.size, vs, .ops all l :: k)
              | some _ => none
            | none => none
          | _ => none
        | _ => none
      | _ => none
    | none => none
  | _ => none
theorem A.wl {b sz : Nat} {vs l : List AV} (h : wlS K.S K.gs k E = some (b, sz, vs, k')) (h1 : oneA vs = true) (hv : vs.length = sz) [z : AAt Λ b (.ag l)] (hl : l.length = sz) [u : AUp Λ b (.ag l) (.ag vs) Λ'] (next : A K k' E Λ') : A K k E Λ := by
  unfold wlS at h
  split at h
  · split at h
    · rename_i ks hg
      split at h
      · rename_i t p y hop
        split at h
        · rename_i b' hp
          split at h
          · rename_i vs' hy
            split at h
            · rename_i ti ht
              split at h
              · rename_i hd
                injection h with h; injection h with e1 h; injection h with e2 h; injection h with e3 e4
                subst e1; subst e2; subst e3; subst e4
                exact A.store hg hop hp hy ht (stA_all hl hv h1) (j := u) hd next
              · cases h
            · cases h
          · cases h
        · cases h
      · cases h
    · cases h
  · cases h
def blS (gs : Ua) (n : Nat) (k : List It) (E : AEnv) : Option (List It × Nat × List AV) := match k with
  | .ops all (o :: l) :: k => match gyesA E all o.guard with
    | some ks => match o.dst with
      | some d => match okPutA n E d with
        | true => match o.op with
          | .box t y => match E.ev gs ks y with
            | some (.ag vs) => some (.ops all l :: k, d, vs)
            | _ => none
          | _ => none
        | false => none
      | none => none
    | none => none
  | _ => none
theorem A.bl {d : Nat} {vs : List AV} (h : blS K.gs K.n k E = some (k', d, vs)) (h1 : oneA vs = true) (next : ∀ b, A K k' ⟨(d, .v (.pointer (some ⟨b, 0, none⟩))) :: E.us, E.cs⟩ (.box b (.ag vs) :: Λ)) : A K k E Λ := by
  unfold blS at h
  split at h
  · split at h
    · rename_i ks hg
      split at h
      · rename_i d' hd
        split at h
        · rename_i hc
          split at h
          · rename_i t y ho
            split at h
            · rename_i vs' hy
              injection h with h; injection h with e1 h; injection h with e2 e3
              subst e1; subst e2; subst e3
              exact A.box hg ho hy rfl h1 hd hc next
            · cases h
          · cases h
        · cases h
      · cases h
    · cases h
  · cases h
end
section
variable {K : AC} {k : List It} {E : AEnv} {Λ : List AEnt}
theorem A.headEq {b : Nat} {x : AV} (x' : AV) (h : x = x') (next : A K k E (.box b x' :: Λ)) : A K k E (.box b x :: Λ) := by subst h; exact next
end
end Go.Tp
