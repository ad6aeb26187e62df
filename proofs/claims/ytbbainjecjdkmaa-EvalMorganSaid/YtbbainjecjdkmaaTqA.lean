/-
  (TqA: values without a heap: what a slot holds, told as data; how it stands in memory that never changes.)
-/
import Derived.Test.YtbbainjecjdkmaaTpK
namespace Go.Tp
open Go Go.RowKit
set_option linter.unusedVariables false
set_option linter.unusedSimpArgs false

/-- data: a cell as it is; a slice by its elements (each of sz cells; 'own': this very slice value, whose spare places may be written); a row of cells; results; a pointer into memory that never changes, by what stands there; a function;
a slice z that the function itself made and still writes, and the place of one of its elements; the place of a cell of a variable -/
inductive AV where
  | v (x : Value)
  | sl (sz : Nat) (l : List AV) (own : Option Value)
  | ag (l : List AV)
  | tp (l : List AV)
  | pe (sz : Nat) (x : AV)
  | fn (f : FuncId) (fst cap : List AV)
  | ms (z : Value) (sz n : Nat)
  | ep (z : Value) (sz i : Nat)
  | eb (b i : Nat)

def ownOk (own : Option Value) (y : Value) : Prop := match own with
  | none => True
  | some z => y = z
def AV.cells : AV → List AV
  | .ag l => l
  | x => [x]
mutual
def Rp (h : GH) : AV → Value → Prop
  | .v x, y => y = x ∧ oneC x = true
  | .sl sz l own, y => ∃ a cap, y = .slice a l.length cap ∧ l.length ≤ cap ∧ ownOk own y ∧ (l ≠ [] → ∃ b o, a = some ⟨b, o, none⟩ ∧ RpE h sz l b o)
  | .ag l, y => ∃ cs, y = .agg ⟨cs⟩ ∧ RpC h l cs
  | .tp l, y => ∃ vs, y = .tuple ⟨vs⟩ ∧ RpC h l vs
  | .pe sz x, y => ∃ b o z, y = .pointer (some ⟨b, o, none⟩) ∧ Rp h x z ∧ (cellsL z).length = sz ∧ atH h b o (cellsL z)
  | .fn f p q, y => ∃ u w, y = .func (.func f) ⟨u⟩ ⟨w⟩ ∧ RpC h p u ∧ RpC h q w
  | .ms z sz n, y => y = z ∧ ∃ a cap, z = .slice a n cap
  | .ep z sz i, y => ∃ b o n cap, z = .slice (some ⟨b, o, none⟩) n cap ∧ i < n ∧ y = .pointer (some ⟨b, o + i * sz, none⟩)
  | .eb b i, y => y = .pointer (some ⟨b, i, none⟩)
def RpC (h : GH) : List AV → List Value → Prop
  | [], vs => vs = []
  | x :: r, vs => ∃ v vs', vs = v :: vs' ∧ Rp h x v ∧ RpC h r vs'
def RpE (h : GH) (sz : Nat) : List AV → Nat → Nat → Prop
  | [], _, _ => True
  | x :: r, b, o => (∃ z, Rp h x z ∧ (cellsL z).length = sz ∧ atH h b o (cellsL z)) ∧ RpE h sz r b (o + sz)
end

mutual
theorem Rp.mono {h h' : GH} (hl : h.le h') : ∀ {x : AV} {y : Value}, Rp h x y → Rp h' x y
  | .v _, _, r => by simp only [Rp] at r ⊢; exact r
  | .sl _ l _, _, r => by
    simp only [Rp] at r ⊢
    obtain ⟨a, cap, h1, h2, h3, h4⟩ := r
    exact ⟨a, cap, h1, h2, h3, fun hn => let ⟨b, o, e1, e2⟩ := h4 hn; ⟨b, o, e1, RpE.mono hl e2⟩⟩
  | .ag _, _, r => by
    simp only [Rp] at r ⊢
    obtain ⟨cs, h1, h2⟩ := r
    exact ⟨cs, h1, RpC.mono hl h2⟩
  | .tp _, _, r => by
    simp only [Rp] at r ⊢
    obtain ⟨cs, h1, h2⟩ := r
    exact ⟨cs, h1, RpC.mono hl h2⟩
  | .pe _ _, _, r => by
    simp only [Rp] at r ⊢
    obtain ⟨b, o, z, h1, h2, h3, h4⟩ := r
    exact ⟨b, o, z, h1, Rp.mono hl h2, h3, h4.mono hl⟩
  | .fn _ _ _, _, r => by
    simp only [Rp] at r ⊢
    obtain ⟨u, w, h1, h2, h3⟩ := r
    exact ⟨u, w, h1, RpC.mono hl h2, RpC.mono hl h3⟩
  | .ms _ _ _, _, r => by simp only [Rp] at r ⊢; exact r
  | .ep _ _ _, _, r => by simp only [Rp] at r ⊢; exact r
  | .eb _ _, _, r => by simp only [Rp] at r ⊢; exact r
theorem RpC.mono {h h' : GH} (hl : h.le h') : ∀ {x : List AV} {y : List Value}, RpC h x y → RpC h' x y
  | [], _, r => by simp only [RpC] at r ⊢; exact r
  | _ :: _, _, r => by
    simp only [RpC] at r ⊢
    obtain ⟨v, vs, h1, h2, h3⟩ := r
    exact ⟨v, vs, h1, Rp.mono hl h2, RpC.mono hl h3⟩
theorem RpE.mono {h h' : GH} (hl : h.le h') {sz : Nat} : ∀ {x : List AV} {b o : Nat}, RpE h sz x b o → RpE h' sz x b o
  | [], _, _, _ => by simp only [RpE]
  | _ :: _, _, _, r => by
    simp only [RpE] at r ⊢
    obtain ⟨⟨z, h1, h2, h3⟩, h4⟩ := r
    exact ⟨⟨z, Rp.mono hl h1, h2, h3.mono hl⟩, RpE.mono hl h4⟩
end

section
variable {h : GH}
theorem Rp_v {x y : Value} : Rp h (.v x) y ↔ y = x ∧ oneC x = true := by simp only [Rp]
theorem Rp_ag {l : List AV} {y : Value} : Rp h (.ag l) y ↔ ∃ cs, y = .agg ⟨cs⟩ ∧ RpC h l cs := by simp only [Rp]
theorem Rp_tp {l : List AV} {y : Value} : Rp h (.tp l) y ↔ ∃ cs, y = .tuple ⟨cs⟩ ∧ RpC h l cs := by simp only [Rp]
theorem Rp_sl {sz : Nat} {l : List AV} {own : Option Value} {y : Value} : Rp h (.sl sz l own) y ↔ ∃ a cap, y = .slice a l.length cap ∧ l.length ≤ cap ∧ ownOk own y ∧ (l ≠ [] → ∃ b o, a = some ⟨b, o, none⟩ ∧ RpE h sz l b o) := by simp only [Rp]
theorem Rp_pe {sz : Nat} {x : AV} {y : Value} : Rp h (.pe sz x) y ↔ ∃ b o z, y = .pointer (some ⟨b, o, none⟩) ∧ Rp h x z ∧ (cellsL z).length = sz ∧ atH h b o (cellsL z) := by simp only [Rp]
theorem Rp_fn {f : FuncId} {p q : List AV} {y : Value} : Rp h (.fn f p q) y ↔ ∃ u w, y = .func (.func f) ⟨u⟩ ⟨w⟩ ∧ RpC h p u ∧ RpC h q w := by simp only [Rp]
theorem Rp_ms {z : Value} {sz n : Nat} {y : Value} : Rp h (.ms z sz n) y ↔ y = z ∧ ∃ a cap, z = .slice a n cap := by simp only [Rp]
theorem Rp_ep {z : Value} {sz i : Nat} {y : Value} : Rp h (.ep z sz i) y ↔ ∃ b o n cap, z = .slice (some ⟨b, o, none⟩) n cap ∧ i < n ∧ y = .pointer (some ⟨b, o + i * sz, none⟩) := by simp only [Rp]
theorem Rp_eb {b i : Nat} {y : Value} : Rp h (.eb b i) y ↔ y = .pointer (some ⟨b, i, none⟩) := by simp only [Rp]
theorem RpC_nil {vs : List Value} : RpC h [] vs ↔ vs = [] := by simp only [RpC]
theorem RpC_cons {x : AV} {r : List AV} {vs : List Value} : RpC h (x :: r) vs ↔ ∃ v vs', vs = v :: vs' ∧ Rp h x v ∧ RpC h r vs' := by simp only [RpC]
theorem RpE_nil {sz b o : Nat} : RpE h sz [] b o := by simp only [RpE]
theorem RpE_cons {sz b o : Nat} {x : AV} {r : List AV} : RpE h sz (x :: r) b o ↔ (∃ z, Rp h x z ∧ (cellsL z).length = sz ∧ atH h b o (cellsL z)) ∧ RpE h sz r b (o + sz) := by simp only [RpE]

theorem RpC.len : ∀ {l : List AV} {vs : List Value}, RpC h l vs → vs.length = l.length
  | [], _, r => by rw [RpC_nil] at r; subst r; rfl
  | _ :: _, _, r => by
    rw [RpC_cons] at r
    obtain ⟨v, vs', rfl, _, h2⟩ := r
    simp [RpC.len h2]
theorem RpC.append : ∀ {l r : List AV} {us vs : List Value}, RpC h l us → RpC h r vs → RpC h (l ++ r) (us ++ vs)
  | [], _, _, _, a, b => by rw [RpC_nil] at a; subst a; exact b
  | _ :: _, _, _, _, a, b => by
    rw [RpC_cons] at a
    obtain ⟨v, vs', rfl, a1, a2⟩ := a
    rw [List.cons_append, RpC_cons]
    exact ⟨v, vs' ++ _, rfl, a1, RpC.append a2 b⟩
theorem RpC.at : ∀ {l : List AV} {vs : List Value}, RpC h l vs → ∀ {i : Nat} {x : AV}, l[i]? = some x → ∃ v, vs[i]? = some v ∧ Rp h x v
  | [], _, _, _, _, hx => by simp at hx
  | _ :: _, _, r, i, x, hx => by
    rw [RpC_cons] at r
    obtain ⟨v, vs', rfl, a1, a2⟩ := r
    cases i with
    | zero => injection hx with hx; subst hx; exact ⟨v, rfl, a1⟩
    | succ i => exact RpC.at a2 (i := i) (by simpa using hx)
theorem RpC.sub : ∀ {l : List AV} {vs : List Value} (k n : Nat), RpC h l vs → RpC h ((l.drop k).take n) ((vs.drop k).take n)
  | [], _, k, n, r => by rw [RpC_nil] at r; subst r; simp [RpC_nil]
  | x :: l, _, 0, n, r => by
    rw [RpC_cons] at r
    obtain ⟨v, vs', rfl, a1, a2⟩ := r
    cases n with
    | zero => simp [RpC_nil]
    | succ n =>
      simp only [List.drop_zero, List.take_succ_cons]
      rw [RpC_cons]
      exact ⟨v, _, rfl, a1, by simpa using RpC.sub 0 n a2⟩
  | x :: l, _, k + 1, n, r => by
    rw [RpC_cons] at r
    obtain ⟨v, vs', rfl, a1, a2⟩ := r
    simpa using RpC.sub k n a2
theorem RpE.at {sz b : Nat} : ∀ {l : List AV} {o : Nat}, RpE h sz l b o → ∀ {i : Nat} {x : AV}, l[i]? = some x → ∃ z, Rp h x z ∧ (cellsL z).length = sz ∧ atH h b (o + i * sz) (cellsL z)
  | [], _, _, _, _, hx => by simp at hx
  | _ :: _, o, r, i, x, hx => by
    rw [RpE_cons] at r
    obtain ⟨a1, a2⟩ := r
    cases i with
    | zero => injection hx with hx; subst hx; simpa using a1
    | succ i =>
      have := RpE.at a2 (i := i) (by simpa using hx)
      rwa [show o + sz + i * sz = o + (i + 1) * sz by rw [Nat.succ_mul]; omega] at this
theorem RpE.sub {sz b : Nat} : ∀ {l : List AV} {o : Nat} (k n : Nat), RpE h sz l b o → RpE h sz ((l.drop k).take n) b (o + k * sz)
  | [], _, k, n, r => by simp [RpE_nil]
  | x :: l, o, 0, n, r => by
    rw [RpE_cons] at r
    cases n with
    | zero => simp [RpE_nil]
    | succ n =>
      simp only [List.drop_zero, List.take_succ_cons, Nat.zero_mul, Nat.add_zero]
      rw [RpE_cons]
      exact ⟨r.1, by simpa using RpE.sub 0 n r.2⟩
  | x :: l, o, k + 1, n, r => by
    rw [RpE_cons] at r
    have := RpE.sub k n r.2
    simpa [Nat.succ_mul, Nat.add_comm, Nat.add_left_comm, Nat.add_assoc] using this
theorem RpE.append {sz b : Nat} : ∀ {l r : List AV} {o : Nat}, RpE h sz l b o → RpE h sz r b (o + l.length * sz) → RpE h sz (l ++ r) b o
  | [], r, o, _, q => by simpa using q
  | x :: l, r, o, p, q => by
    rw [RpE_cons] at p
    rw [List.cons_append, RpE_cons]
    exact ⟨p.1, RpE.append p.2 (by rw [show o + sz + l.length * sz = o + (x :: l).length * sz by simp [Nat.succ_mul]; omega]; exact q)⟩

/-! ### one cell or more -/
def AV.one : AV → Bool
  | .ag _ => false
  | .tp _ => false
  | _ => true
def oneA : List AV → Bool
  | [] => true
  | x :: r => match x.one with
    | true => oneA r
    | false => false
theorem Rp.one {x : AV} {y : Value} (r : Rp h x y) (ho : x.one = true) : oneC y = true := by
  cases x with
  | v x => rw [Rp_v] at r; rw [r.1]; exact r.2
  | sl sz l own => rw [Rp_sl] at r; obtain ⟨a, c, rfl, _⟩ := r; rfl
  | ag l => cases ho
  | tp l => cases ho
  | pe sz x => rw [Rp_pe] at r; obtain ⟨b, o, z, rfl, _⟩ := r; rfl
  | fn f p q => rw [Rp_fn] at r; obtain ⟨u, w, rfl, _⟩ := r; rfl
  | ms b sz n => rw [Rp_ms] at r; obtain ⟨rfl, a, c, rfl⟩ := r; rfl
  | ep b sz n => rw [Rp_ep] at r; obtain ⟨b, o, n, c, _, _, rfl⟩ := r; rfl
  | eb b i => rw [Rp_eb] at r; subst r; rfl
theorem cellsL_one {y : Value} (h : oneC y = true) : cellsL y = [y] := by cases y <;> first | rfl | cases h
theorem RpC.one : ∀ {l : List AV} {vs : List Value}, RpC h l vs → oneA l = true → allOne vs = true
  | [], _, r, _ => by rw [RpC_nil] at r; subst r; rfl
  | x :: l, _, r, ho => by
    rw [RpC_cons] at r
    obtain ⟨v, vs', rfl, a1, a2⟩ := r
    simp only [oneA] at ho
    split at ho
    · rename_i hx
      simp only [allOne, Rp.one a1 hx]
      exact RpC.one a2 ho
    · cases ho
/-- the cells of data -/
theorem Rp.cells {x : AV} {y : Value} (r : Rp h x y) (ho : x.one = true ∨ ∃ l, x = .ag l) : RpC h x.cells (cellsL y) := by
  rcases ho with ho | ⟨l, rfl⟩
  · have h1 := cellsL_one (r.one ho)
    have h2 : x.cells = [x] := by cases x <;> first | rfl | cases ho
    rw [h1, h2, RpC_cons]
    exact ⟨y, [], rfl, r, RpC_nil.2 rfl⟩
  · rw [Rp_ag] at r
    obtain ⟨cs, rfl, h2⟩ := r
    exact h2
theorem Rp.of_cells {x : AV} {cs : List Value} (ho : x.one = true) (r : RpC h x.cells cs) : ∃ y, cs = [y] ∧ Rp h x y := by
  have h2 : x.cells = [x] := by cases x <;> first | rfl | cases ho
  rw [h2, RpC_cons] at r
  obtain ⟨v, vs', rfl, a1, a2⟩ := r
  rw [RpC_nil] at a2; subst a2
  exact ⟨v, rfl, a1⟩

/-! ### less told -/
mutual
inductive Sb : AV → AV → Prop
  | refl {x : AV} : Sb x x
  | nil {sz : Nat} : Sb (.v (.slice none 0 0)) (.sl sz [] none)
  | own {sz : Nat} {l l' : List AV} {o : Option Value} : SbL l l' → Sb (.sl sz l o) (.sl sz l' none)
  | ag {l l' : List AV} : SbL l l' → Sb (.ag l) (.ag l')
  | tp {l l' : List AV} : SbL l l' → Sb (.tp l) (.tp l')
inductive SbL : List AV → List AV → Prop
  | refl {l : List AV} : SbL l l
  | cons {x y : AV} {l r : List AV} : Sb x y → SbL l r → SbL (x :: l) (y :: r)
end
theorem SbL.nil : SbL [] [] := .refl
theorem Sb.own1 {sz : Nat} {l : List AV} {o : Option Value} : Sb (.sl sz l o) (.sl sz l none) := .own .refl
theorem SbL.len {l r : List AV} (s : SbL l r) : l.length = r.length := by
  induction r generalizing l with
  | nil => cases s; rfl
  | cons x r ih => cases s with
    | refl => rfl
    | cons _ s => simp [ih s]
theorem nil_rp (sz : Nat) : Rp h (.sl sz [] none) (.slice none 0 0) := by
  rw [Rp_sl]; exact ⟨none, 0, rfl, Nat.le_refl _, trivial, fun hn => (hn rfl).elim⟩
mutual
theorem Sb.rp : ∀ {x y : AV}, Sb x y → ∀ {z : Value}, Rp h x z → Rp h y z
  | _, _, .refl, _, r => r
  | _, _, .nil, z, r => by
    rw [Rp_v] at r; rw [r.1]; exact nil_rp _
  | _, _, .own (l := l) (l' := l') s, z, r => by
    rw [Rp_sl] at r ⊢
    obtain ⟨a, c, h1, h2, _, h4⟩ := r
    have hl := s.len
    rw [← hl]
    refine ⟨a, c, h1, h2, trivial, fun hn => ?_⟩
    obtain ⟨b, o, g1, g2⟩ := h4 (fun hh => hn (by subst hh; exact List.length_eq_zero_iff.1 hl.symm))
    exact ⟨b, o, g1, SbL.rpE s g2⟩
  | _, _, .ag s, z, r => by
    rw [Rp_ag] at r ⊢
    obtain ⟨cs, h1, h2⟩ := r
    exact ⟨cs, h1, SbL.rp s h2⟩
  | _, _, .tp s, z, r => by
    rw [Rp_tp] at r ⊢
    obtain ⟨cs, h1, h2⟩ := r
    exact ⟨cs, h1, SbL.rp s h2⟩
theorem SbL.rp : ∀ {x y : List AV}, SbL x y → ∀ {z : List Value}, RpC h x z → RpC h y z
  | _, _, .refl, _, r => r
  | _, _, .cons s t, z, r => by
    rw [RpC_cons] at r ⊢
    obtain ⟨v, vs, h1, h2, h3⟩ := r
    exact ⟨v, vs, h1, Sb.rp s h2, SbL.rp t h3⟩
theorem SbL.rpE : ∀ {x y : List AV}, SbL x y → ∀ {sz b o : Nat}, RpE h sz x b o → RpE h sz y b o
  | _, _, .refl, _, _, _, r => r
  | _, _, .cons s t, sz, b, o, r => by
    rw [RpE_cons] at r ⊢
    obtain ⟨⟨z, h1, h2, h3⟩, h4⟩ := r
    exact ⟨⟨z, Sb.rp s h1, h2, h3⟩, SbL.rpE t h4⟩
end
end
end Go.Tp
