/-
  Chapter 22: what was walked, told over data; Deep, Turned.
-/
import Derived.Test.YtppapfhfkkafdaaDoorD22h
import Derived.Test.YtppapfhfkkafdaaDoorTqW

namespace Go.Proofs.YtppapfhfkkafdaaDoor
open Go Go.Tp
set_option linter.unusedVariables false
set_option linter.unusedSimpArgs false
set_option maxRecDepth 100000
set_option maxHeartbeats 4000000

abbrev gsQ : Ua := [(0, .pe 27 (.ag (quietL.map .v)))]
abbrev AI32 (n : Int) : AV := .v (.int .i32 n)
abbrev AI (n : Int) : AV := .v (.int .i64 n)
abbrev AU8 (n : Int) : AV := .v (.int .u8 n)
abbrev AB (b : Bool) : AV := .v (.bool b)
theorem Sb.eq {x y : AV} (h : x = y) : Sb x y := by subst h; exact .refl
theorem ai_eq {a b : Int} (h : a = b) : AI a = AI b := by rw [h]
theorem ab_eq {a b : Bool} (h : a = b) : AB a = AB b := by rw [h]
theorem map_at {α β : Type} {f : α → β} {l : List α} {i : Nat} {x : α} (h : l[i]? = some x) : (l.map f)[i]? = some (f x) := by rw [List.getElem?_map, h]; rfl
theorem at_exN {α : Type} {l : List α} {i : Nat} (h1 : i < l.length) : ∃ x, l[i]? = some x := ⟨l[i]'h1, List.getElem?_eq_getElem _⟩
theorem inc_eq (i : Nat) (h : i < 4611686018427387904) : AV.v (.int .i64 (IntKind.i64.wrap ((i : Int) + 1))) = AI ((i + 1 : Nat) : Int) := by
  rw [wr64 _ (by omega)]; rfl
mutual
def encK : KE → AV
  | ⟨k, o, t, n, v, l⟩ => .ag [AU8 k, AU8 o, AU8 t, AI32 n, AI v, .sl 6 (encKl l) none]
def encKl : List KE → List AV
  | [] => []
  | e :: r => encK e :: encKl r
end
theorem encK_eq (e : KE) : encK e = .ag [AU8 e.kind, AU8 e.oper, AU8 e.to, AI32 e.n, AI e.v, .sl 6 (encKl e.l) none] := by obtain ⟨k, o, t, n, v, l⟩ := e; rw [encK]
theorem encKl_map (l : List KE) : encKl l = l.map encK := by
  induction l with
  | nil => rw [encKl]; rfl
  | cons x r ih => rw [encKl, ih]; rfl
mutual
def wfK : KE → Prop
  | ⟨k, o, t, n, v, l⟩ => (u8 k ∧ u8 o ∧ u8 t ∧ i32 n ∧ i64 v) ∧ wfKl l
def wfKl : List KE → Prop
  | [] => True
  | e :: r => wfK e ∧ wfKl r
end
theorem RpC1 {h : GH} {x : Value} {r : List AV} {vs : List Value} (q : RpC h (.v x :: r) vs) : ∃ vs', vs = x :: vs' ∧ RpC h r vs' := by
  rw [RpC_cons] at q
  obtain ⟨v, vs', rfl, h1, h2⟩ := q
  rw [Rp_v] at h1
  exact ⟨vs', by rw [h1.1], h2⟩
mutual
theorem RK_of {h : GH} : ∀ {e : KE} {cs : List Value}, wfK e → Rp h (encK e) (.agg ⟨cs⟩) → RK h e cs
  | ⟨k, o, t, n, v, l⟩, cs, hw, q => by
    rw [wfK] at hw
    rw [encK, Rp_ag] at q
    obtain ⟨cs', e1, q⟩ := q
    injection e1 with e1; injection e1 with e1; subst e1
    obtain ⟨c1, rfl, k1⟩ := RpC1 q
    obtain ⟨c2, rfl, k2⟩ := RpC1 k1
    obtain ⟨c3, rfl, k3⟩ := RpC1 k2
    obtain ⟨c4, rfl, k4⟩ := RpC1 k3
    obtain ⟨c5, rfl, k5⟩ := RpC1 k4
    rw [RpC_cons] at k5
    obtain ⟨u, us, rfl, q1, q2⟩ := k5
    rw [RpC_nil] at q2; subst q2
    rw [Rp_sl] at q1
    obtain ⟨a, cap, rfl, q2, _, q3⟩ := q1
    have hl : (encKl l).length = l.length := by rw [encKl_map, List.length_map]
    rw [RK]
    refine ⟨hw.1, a, cap, by rw [hl], by rw [← hl]; exact q2, fun hn => ?_⟩
    obtain ⟨b, oo, rfl, q4⟩ := q3 (fun hh => hn (by rw [hh] at hl; exact List.length_eq_zero_iff.1 hl.symm))
    exact ⟨b, oo, rfl, RKl_of' hw.2 q4⟩
theorem RKl_of' {h : GH} : ∀ {l : List KE} {b o : Nat}, wfKl l → RpE h 6 (encKl l) b o → RKl h l b o
  | [], _, _, _, _ => by rw [RKl]; trivial
  | e :: r, b, o, hw, q => by
    rw [wfKl] at hw
    rw [encKl, RpE_cons] at q
    obtain ⟨⟨z, q1, q2, q3⟩, q4⟩ := q
    rw [RKl]
    have q5 := q1
    rw [encK_eq, Rp_ag] at q5
    obtain ⟨cs, rfl, _⟩ := q5
    have e1 : cellsL (.agg ⟨cs⟩) = cs := rfl
    rw [e1] at q3
    exact ⟨⟨cs, q3, RK_of hw.1 q1⟩, RKl_of' hw.2 q4⟩
end
theorem quiet_gs {h : GH} (g : GsOk h gsQ) : atH h 0 0 quietL := by
  have q := g 0 _ rfl
  rw [Rp_pe] at q
  obtain ⟨b, o, z, e1, q1, q2, q3⟩ := q
  injection e1 with e1; injection e1 with e1; injection e1 with e1 e2
  subst e1; subst e2
  rw [Rp_ag] at q1
  obtain ⟨cs, rfl, q1⟩ := q1
  have : ∀ (l cs : List Value), RpC h (l.map .v) cs → cs = l := fun l => by
    induction l with
    | nil => intro cs q; rw [List.map_nil, RpC_nil] at q; exact q
    | cons x r ih =>
      intro cs q
      obtain ⟨vs, rfl, k1⟩ := RpC1 q
      rw [ih vs k1]
  have := this _ _ q1
  subst this
  exact q3
/-- from what was walked over the heap -/
theorem pure_is {f : FuncId} {e : KE} {v : Value} (hw : wfK e) (hv : oneC v = true) (hd : ∀ w0 h L cs, atH h 0 0 quietL → RK h e cs → Does Tryd.prog w0 f [.agg ⟨cs⟩] h L (Is v h L)) : Pure Tryd.prog gsQ f [encK e] (.v v) := by
  intro w0 h vs L F g r q
  have q : L = [] := q
  subst q
  rw [RpC_cons] at r
  obtain ⟨u, us, rfl, r1, r2⟩ := r
  rw [RpC_nil] at r2; subst r2
  have r3 := r1
  rw [encK_eq, Rp_ag] at r3
  obtain ⟨cs, rfl, _⟩ := r3
  refine (hd w0 h F cs (quiet_gs g) (RK_of hw r1)).mono fun v' h' L' ⟨e1, e2, e3⟩ => ?_
  subst e1; subst e2; subst e3
  exact ⟨_, [], [], ⟨rfl, rfl⟩, Rp_v.2 ⟨rfl, hv⟩, GH.le_refl _, rfl, rfl⟩
theorem may_p (e : KE) (hw : wfK e) : Pure Tryd.prog gsQ 14 [encK e] (AB (decide (valid e))) := pure_is hw rfl fun w0 h L cs _ hr => may_does w0 h L e cs hr
theorem depth_p (e : KE) (hw : wfK e) : Pure Tryd.prog gsQ 7 [encK e] (AI (nrOf e).regs) := pure_is hw rfl fun w0 h L cs hq hr => depth_does w0 h hq L e cs hr
theorem temps_p (e : KE) (hw : wfK e) : Pure Tryd.prog gsQ 9 [encK e] (AI (nrOf e).temps) := pure_is hw rfl fun w0 h L cs hq hr => dtemps_does w0 h hq L e cs hr
theorem safe_p (e : KE) (hw : wfK e) : Pure Tryd.prog gsQ 11 [encK e] (AB (nrOf e).safe) := pure_is hw rfl fun w0 h L cs hq hr => dsafe_does w0 h hq L e cs hr
theorem head_p : Pure Tryd.prog gsQ 13 [] (AB true) := by
  intro w0 h vs L F g r q
  have q : L = [] := q
  subst q
  rw [RpC_nil] at r; subst r
  refine (head_does w0 h (quiet_gs g) F).mono fun v' h' L' ⟨e1, e2, e3⟩ => ?_
  subst e1; subst e3
  exact ⟨_, [], [], ⟨rfl, rfl⟩, Rp_v.2 ⟨rfl, rfl⟩, e2, rfl, rfl⟩
theorem two_p (o : Int) (a b : KE) : Pure Tryd.prog gsQ 17 [AU8 o, encK a, encK b] (encK (twoE o a b)) := by
  have h : encK (twoE o a b) = .ag [AU8 5, AU8 o, AU8 0, AI32 0, AI 0, .sl 6 [encK a, encK b] none] := by simp only [twoE, encK, encKl]
  rw [h, encK_eq a, encK_eq b]
  refine Pure.of (S := tt) (fn := Tryd.f17) (n := 12) tt_ok Tryd.func17 rfl rfl rfl rfl fun w0 h0 F hgs => ?_
  (repeat (first | first | refine A.stepY rfl ?_ | refine A.loadY rfl rfl rfl rfl rfl rfl ?_ | refine A.store rfl rfl rfl rfl rfl rfl rfl ?_ | refine A.condT rfl ?_ | refine A.condF rfl ?_ | refine A.skip rfl rfl ?_ | refine A.skipU rfl rfl rfl ?_ | refine A.pickT rfl rfl rfl rfl rfl ?_ | refine A.pickF rfl rfl rfl rfl rfl ?_ | refine A.alloc rfl rfl rfl rfl rfl rfl fun bx => ?_ | refine A.box rfl rfl rfl rfl rfl rfl rfl fun bx => ?_ | refine A.lit rfl rfl rfl rfl rfl fun bl => ?_ | first | refine A.step rfl ?_ | refine A.load rfl rfl rfl rfl rfl rfl ?_)); refine A.retC (Λ' := []) rfl rfl rfl rfl rfl (by repeat (first | exact List.Sublist.refl _ | apply List.Sublist.cons_cons | apply List.Sublist.cons)) ⟨?_, rfl⟩
  (repeat (first | exact Sb.refl | exact SbL.refl | refine SbL.cons ?_ ?_ | exact Sb.nil | exact Sb.own1 | refine Sb.own ?_ | refine Sb.ag ?_ | refine Sb.tp ?_))

/-! ### Deep -/
theorem ht_eq (e : KE) : ht e = 1 + htl e.l := by obtain ⟨k, o, t, n, v, l⟩ := e; rw [ht]
theorem htl_le : ∀ {l : List KE} {x : KE}, x ∈ l → ht x ≤ htl l
  | [], _, h => by cases h
  | y :: r, x, h => by
    rw [htl]
    rcases List.mem_cons.1 h with rfl | h
    · omega
    · have := htl_le h; omega
theorem htl_append (a b : List KE) : htl (a ++ b) = max (htl a) (htl b) := by
  induction a with
  | nil => simp [htl]
  | cons x r ih => rw [List.cons_append, htl, htl, ih]; omega
theorem fine_mem : ∀ {l : List KE}, finel l = true → ∀ x, x ∈ l → fine x = true
  | [], _, _, h => by cases h
  | y :: r, hf, x, h => by
    simp only [finel, Bool.and_eq_true] at hf
    rcases List.mem_cons.1 h with rfl | h
    · exact hf.1
    · exact fine_mem hf.2 x h
theorem fine_l {e : KE} (h : fine e = true) : finel e.l = true := by obtain ⟨k, o, t, n, v, l⟩ := e; simp only [fine, Bool.and_eq_true] at h; exact h.2
theorem fine_len {e : KE} (h : fine e = true) : e.l.length ≤ 2 := by
  rcases fine_cases h with ⟨n, rfl⟩ | ⟨v, _, _, rfl⟩ | ⟨v, a, _, _, _, rfl⟩ | ⟨o, a, _, _, _, rfl⟩ | ⟨o, a, b, _, _, _, _, rfl⟩ | ⟨t, a, _, _, _, rfl⟩ <;> simp
theorem encKl_at {l : List KE} {i : Nat} {x : KE} (h : l[i]? = some x) : (encKl l)[i]? = some (encK x) := by rw [encKl_map]; exact map_at h
theorem encKl_len (l : List KE) : (encKl l).length = l.length := by rw [encKl_map, List.length_map]
theorem deep_p : ∀ (N : Nat) (e : KE), ht e ≤ N → N ≤ 1000000 → fine e = true → Pure Tryd.prog gsQ 15 [encK e] (AI (ht e : Nat))
  | 0, e, hn, _, _ => by rw [ht_eq] at hn; omega
  | N + 1, e, hn, hb, hf => by
    have h2 := fine_len hf
    have hfl := fine_l hf
    have hh := ht_eq e
    have hlen : ((encKl e.l).length : Int) = e.l.length := by rw [encKl_len]
    rw [encK_eq]
    refine Pure.of (S := tt) (fn := Tryd.f15) (n := 22) tt_ok Tryd.func15 rfl rfl rfl rfl fun w0 h0 F hgs => ?_
    (repeat (first | first | refine A.stepY rfl ?_ | refine A.loadY rfl rfl rfl rfl rfl rfl ?_ | refine A.store rfl rfl rfl rfl rfl rfl rfl ?_ | refine A.condT rfl ?_ | refine A.condF rfl ?_ | refine A.skip rfl rfl ?_ | refine A.skipU rfl rfl rfl ?_ | refine A.pickT rfl rfl rfl rfl rfl ?_ | refine A.pickF rfl rfl rfl rfl rfl ?_ | refine A.alloc rfl rfl rfl rfl rfl rfl fun bx => ?_ | refine A.box rfl rfl rfl rfl rfl rfl rfl fun bx => ?_ | refine A.lit rfl rfl rfl rfl rfl fun bl => ?_ | first | refine A.step rfl ?_ | refine A.load rfl rfl rfl rfl rfl rfl ?_))
    refine A.keep [1, 3, 4] rfl ?_
    refine A.loopP (ι := Nat) (fun i => (⟨[(1, .v (.pointer (some ⟨bx, 0, none⟩))), (3, AI (htl (e.l.take i) : Nat)), (4, AI (i : Nat))], []⟩, [.box bx (.ag [AU8 e.kind, AU8 e.oper, AU8 e.to, AI32 e.n, AI e.v, .sl 6 (encKl e.l) none])])) (fun i => i ≤ e.l.length) (fun i => e.l.length - i) 0 (by omega) rfl fun i hi ih => ?_
    (repeat (first | first | refine A.stepY rfl ?_ | refine A.loadY rfl rfl rfl rfl rfl rfl ?_ | refine A.store rfl rfl rfl rfl rfl rfl rfl ?_ | refine A.condT rfl ?_ | refine A.condF rfl ?_ | refine A.skip rfl rfl ?_ | refine A.skipU rfl rfl rfl ?_ | refine A.pickT rfl rfl rfl rfl rfl ?_ | refine A.pickF rfl rfl rfl rfl rfl ?_ | refine A.alloc rfl rfl rfl rfl rfl rfl fun bx => ?_ | refine A.box rfl rfl rfl rfl rfl rfl rfl fun bx => ?_ | refine A.lit rfl rfl rfl rfl rfl fun bl => ?_ | first | refine A.step rfl ?_ | refine A.load rfl rfl rfl rfl rfl rfl ?_))
    refine A.cond rfl (fun hc => ?_) (fun hc => ?_)
    · simp at hc
      rw [encKl_len] at hc
      refine Exists.elim (at_exN (l := e.l) (i := i) (by omega)) fun x hx => ?_
      have hxm := List.mem_of_getElem? hx
      have hxl := htl_le hxm
      have hd := deep_p N x (by omega) (by omega) (fine_mem hfl x hxm)
      (repeat (first | first | refine A.stepY rfl ?_ | refine A.loadY rfl rfl rfl rfl rfl rfl ?_ | refine A.store rfl rfl rfl rfl rfl rfl rfl ?_ | refine A.condT rfl ?_ | refine A.condF rfl ?_ | refine A.skip rfl rfl ?_ | refine A.skipU rfl rfl rfl ?_ | refine A.pickT rfl rfl rfl rfl rfl ?_ | refine A.pickF rfl rfl rfl rfl rfl ?_ | refine A.alloc rfl rfl rfl rfl rfl rfl fun bx => ?_ | refine A.box rfl rfl rfl rfl rfl rfl rfl fun bx => ?_ | refine A.lit rfl rfl rfl rfl rfl fun bl => ?_ | first | refine A.step rfl ?_ | refine A.load rfl rfl rfl rfl rfl rfl ?_))
      refine A.index rfl rfl rfl rfl rfl rfl rfl rfl (by omega) (encKl_at hx) (encK_eq x) rfl ?_
      (repeat (first | first | refine A.stepY rfl ?_ | refine A.loadY rfl rfl rfl rfl rfl rfl ?_ | refine A.store rfl rfl rfl rfl rfl rfl rfl ?_ | refine A.condT rfl ?_ | refine A.condF rfl ?_ | refine A.skip rfl rfl ?_ | refine A.skipU rfl rfl rfl ?_ | refine A.pickT rfl rfl rfl rfl rfl ?_ | refine A.pickF rfl rfl rfl rfl rfl ?_ | refine A.alloc rfl rfl rfl rfl rfl rfl fun bx => ?_ | refine A.box rfl rfl rfl rfl rfl rfl rfl fun bx => ?_ | refine A.lit rfl rfl rfl rfl rfl fun bl => ?_ | first | refine A.step rfl ?_ | refine A.load rfl rfl rfl rfl rfl rfl ?_))
      refine A.valE 17 rfl (encK_eq x).symm ?_
      refine A.callP rfl rfl rfl rfl rfl rfl hd (by repeat (first | exact Sb.refl | exact SbL.refl | refine SbL.cons ?_ ?_ | exact Sb.nil | exact Sb.own1 | refine Sb.own ?_ | refine Sb.ag ?_ | refine Sb.tp ?_)) ?_
      (repeat (first | first | refine A.stepY rfl ?_ | refine A.loadY rfl rfl rfl rfl rfl rfl ?_ | refine A.store rfl rfl rfl rfl rfl rfl rfl ?_ | refine A.condT rfl ?_ | refine A.condF rfl ?_ | refine A.skip rfl rfl ?_ | refine A.skipU rfl rfl rfl ?_ | refine A.pickT rfl rfl rfl rfl rfl ?_ | refine A.pickF rfl rfl rfl rfl rfl ?_ | refine A.alloc rfl rfl rfl rfl rfl rfl fun bx => ?_ | refine A.box rfl rfl rfl rfl rfl rfl rfl fun bx => ?_ | refine A.lit rfl rfl rfl rfl rfl fun bl => ?_ | first | refine A.step rfl ?_ | refine A.load rfl rfl rfl rfl rfl rfl ?_))
      refine A.valE 3 rfl (x' := AI (htl (e.l.take (i + 1)) : Nat)) (ai_eq ?_) ?_
      · have : htl (e.l.take (i + 1)) = max (htl (e.l.take i)) (ht x) := by rw [List.take_add_one, hx, htl_append]; simp [htl]
        rw [this]; split <;> omega
      have eNx := inc_eq i (by omega)
      refine A.valE 4 rfl (x' := AI ((i + 1 : Nat) : Int)) eNx ?_
      refine A.sub (by repeat (first | exact trivial | refine ⟨⟨_, rfl, .refl⟩, ?_⟩)) (ih (i + 1) (by omega) (by omega))
    · simp at hc
      rw [encKl_len] at hc
      (repeat (first | first | refine A.stepY rfl ?_ | refine A.loadY rfl rfl rfl rfl rfl rfl ?_ | refine A.store rfl rfl rfl rfl rfl rfl rfl ?_ | refine A.condT rfl ?_ | refine A.condF rfl ?_ | refine A.skip rfl rfl ?_ | refine A.skipU rfl rfl rfl ?_ | refine A.pickT rfl rfl rfl rfl rfl ?_ | refine A.pickF rfl rfl rfl rfl rfl ?_ | refine A.alloc rfl rfl rfl rfl rfl rfl fun bx => ?_ | refine A.box rfl rfl rfl rfl rfl rfl rfl fun bx => ?_ | refine A.lit rfl rfl rfl rfl rfl fun bl => ?_ | first | refine A.step rfl ?_ | refine A.load rfl rfl rfl rfl rfl rfl ?_))
      refine A.ret1 (Λ' := []) rfl rfl rfl (by repeat (first | exact List.Sublist.refl _ | apply List.Sublist.cons_cons | apply List.Sublist.cons)) ⟨?_, rfl⟩
      refine Sb.eq (ai_eq ?_)
      rw [List.take_of_length_le (by omega), wr64 _ (by omega)]; omega

/-! ### Turned -/
def sw : List KE → List KE
  | [a, b] => [b, a]
  | l => l
mutual
def turn : KE → KE
  | ⟨k, o, t, n, v, l⟩ => ⟨k, o, t, n, v, sw (turnl l)⟩
def turnl : List KE → List KE
  | [] => []
  | e :: r => turn e :: turnl r
end
theorem turn_eq (e : KE) : turn e = ⟨e.kind, e.oper, e.to, e.n, e.v, sw (turnl e.l)⟩ := by obtain ⟨k, o, t, n, v, l⟩ := e; rw [turn]
abbrev cellsK (e : KE) : AV := .ag [AU8 e.kind, AU8 e.oper, AU8 e.to, AI32 e.n, AI e.v, .sl 6 (encKl e.l) none]
theorem turned_p : ∀ (N : Nat) (e : KE), ht e ≤ N → fine e = true → Pure Tryd.prog gsQ 16 [encK e] (encK (turn e))
  | 0, e, hn, _ => by rw [ht_eq] at hn; omega
  | N + 1, ⟨k, o, t, n, v, l⟩, hn, hf => by
    have h2 := fine_len hf
    have hfl := fine_l hf
    rw [ht_eq] at hn
    have h5 : 1 + htl l ≤ N + 1 := hn
    have hd : ∀ x, x ∈ l → Pure Tryd.prog gsQ 16 [encK x] (encK (turn x)) := fun x hx => turned_p N x (by have h4 := htl_le hx; omega) (fine_mem hfl x hx)
    match l, h2 with
    | [], _ =>
      simp only [turn, turnl, sw, encK, encKl]
      refine Pure.of (S := tt) (fn := Tryd.f16) (n := 46) tt_ok Tryd.func16 rfl rfl rfl rfl fun w0 h0 F hgs => ?_
      (repeat (first | first | refine A.stepY rfl ?_ | refine A.loadY rfl rfl rfl rfl rfl rfl ?_ | refine A.store rfl rfl rfl rfl rfl rfl rfl ?_ | refine A.condT rfl ?_ | refine A.condF rfl ?_ | refine A.skip rfl rfl ?_ | refine A.skipU rfl rfl rfl ?_ | refine A.pickT rfl rfl rfl rfl rfl ?_ | refine A.pickF rfl rfl rfl rfl rfl ?_ | refine A.alloc rfl rfl rfl rfl rfl rfl fun bx => ?_ | refine A.box rfl rfl rfl rfl rfl rfl rfl fun bx => ?_ | refine A.lit rfl rfl rfl rfl rfl fun bl => ?_ | first | refine A.step rfl ?_ | refine A.load rfl rfl rfl rfl rfl rfl ?_)); refine A.loop1 ?_; (repeat (first | first | refine A.stepY rfl ?_ | refine A.loadY rfl rfl rfl rfl rfl rfl ?_ | refine A.store rfl rfl rfl rfl rfl rfl rfl ?_ | refine A.condT rfl ?_ | refine A.condF rfl ?_ | refine A.skip rfl rfl ?_ | refine A.skipU rfl rfl rfl ?_ | refine A.pickT rfl rfl rfl rfl rfl ?_ | refine A.pickF rfl rfl rfl rfl rfl ?_ | refine A.alloc rfl rfl rfl rfl rfl rfl fun bx => ?_ | refine A.box rfl rfl rfl rfl rfl rfl rfl fun bx => ?_ | refine A.lit rfl rfl rfl rfl rfl fun bl => ?_ | first | refine A.step rfl ?_ | refine A.load rfl rfl rfl rfl rfl rfl ?_)); refine A.retC (Λ' := []) rfl rfl rfl rfl rfl (by repeat (first | exact List.Sublist.refl _ | apply List.Sublist.cons_cons | apply List.Sublist.cons)) ⟨?_, rfl⟩; (repeat (first | exact Sb.refl | exact SbL.refl | refine SbL.cons ?_ ?_ | exact Sb.nil | exact Sb.own1 | refine Sb.own ?_ | refine Sb.ag ?_ | refine Sb.tp ?_))
    | [a], _ =>
      simp only [turn, turnl, sw, encK, encKl]
      refine Pure.of (S := tt) (fn := Tryd.f16) (n := 46) tt_ok Tryd.func16 rfl rfl rfl rfl fun w0 h0 F hgs => ?_
      (repeat (first | first | refine A.stepY rfl ?_ | refine A.loadY rfl rfl rfl rfl rfl rfl ?_ | refine A.store rfl rfl rfl rfl rfl rfl rfl ?_ | refine A.condT rfl ?_ | refine A.condF rfl ?_ | refine A.skip rfl rfl ?_ | refine A.skipU rfl rfl rfl ?_ | refine A.pickT rfl rfl rfl rfl rfl ?_ | refine A.pickF rfl rfl rfl rfl rfl ?_ | refine A.alloc rfl rfl rfl rfl rfl rfl fun bx => ?_ | refine A.box rfl rfl rfl rfl rfl rfl rfl fun bx => ?_ | refine A.lit rfl rfl rfl rfl rfl fun bl => ?_ | first | refine A.step rfl ?_ | refine A.load rfl rfl rfl rfl rfl rfl ?_)); refine A.loop1 ?_; (repeat (first | first | refine A.stepY rfl ?_ | refine A.loadY rfl rfl rfl rfl rfl rfl ?_ | refine A.store rfl rfl rfl rfl rfl rfl rfl ?_ | refine A.condT rfl ?_ | refine A.condF rfl ?_ | refine A.skip rfl rfl ?_ | refine A.skipU rfl rfl rfl ?_ | refine A.pickT rfl rfl rfl rfl rfl ?_ | refine A.pickF rfl rfl rfl rfl rfl ?_ | refine A.alloc rfl rfl rfl rfl rfl rfl fun bx => ?_ | refine A.box rfl rfl rfl rfl rfl rfl rfl fun bx => ?_ | refine A.lit rfl rfl rfl rfl rfl fun bl => ?_ | first | refine A.step rfl ?_ | refine A.load rfl rfl rfl rfl rfl rfl ?_))
      refine A.draw 9 [0, 1, 2, 3, 4, 5, 6, 7, 8] noPubs [(7, encK (turn a))] (by kernel_rfl) (by kernel_rfl) ?_
      ((repeat (first | refine WA.stepY rfl ?_ | refine WA.loadY rfl rfl rfl rfl rfl rfl rfl ?_ | refine WA.skip rfl rfl rfl ?_ | refine WA.skipU rfl rfl rfl rfl ?_ | refine WA.pickT rfl rfl rfl rfl rfl rfl ?_ | refine WA.pickF rfl rfl rfl rfl rfl rfl ?_ | refine WA.step rfl ?_ | refine WA.load rfl rfl rfl rfl rfl rfl rfl ?_)); refine WA.index rfl rfl rfl rfl rfl rfl rfl rfl rfl (by decide) (by rfl) (encK_eq _) rfl ?_; (repeat (first | refine WA.stepY rfl ?_ | refine WA.loadY rfl rfl rfl rfl rfl rfl rfl ?_ | refine WA.skip rfl rfl rfl ?_ | refine WA.skipU rfl rfl rfl rfl ?_ | refine WA.pickT rfl rfl rfl rfl rfl rfl ?_ | refine WA.pickF rfl rfl rfl rfl rfl rfl ?_ | refine WA.step rfl ?_ | refine WA.load rfl rfl rfl rfl rfl rfl rfl ?_)); refine WA.valE 21 rfl (encK_eq _).symm ?_; refine WA.callP rfl rfl rfl rfl rfl rfl rfl rfl rfl rfl (hd _ (by simp)) (.sub (by repeat (first | exact Sb.refl | exact SbL.refl | refine SbL.cons ?_ ?_ | exact Sb.nil | exact Sb.own1 | refine Sb.own ?_ | refine Sb.ag ?_ | refine Sb.tp ?_))) ?_; refine WA.valE 22 rfl (encK_eq _) ?_; (repeat (first | refine WA.stepY rfl ?_ | refine WA.loadY rfl rfl rfl rfl rfl rfl rfl ?_ | refine WA.skip rfl rfl rfl ?_ | refine WA.skipU rfl rfl rfl rfl ?_ | refine WA.pickT rfl rfl rfl rfl rfl rfl ?_ | refine WA.pickF rfl rfl rfl rfl rfl rfl ?_ | refine WA.step rfl ?_ | refine WA.load rfl rfl rfl rfl rfl rfl rfl ?_)); refine WA.lit rfl rfl rfl rfl rfl rfl rfl fun bw => ?_; (repeat (first | refine WA.stepY rfl ?_ | refine WA.loadY rfl rfl rfl rfl rfl rfl rfl ?_ | refine WA.skip rfl rfl rfl ?_ | refine WA.skipU rfl rfl rfl rfl ?_ | refine WA.pickT rfl rfl rfl rfl rfl rfl ?_ | refine WA.pickF rfl rfl rfl rfl rfl rfl ?_ | refine WA.step rfl ?_ | refine WA.load rfl rfl rfl rfl rfl rfl rfl ?_)))
      refine WA.nil (l := [.row 6 _ [cellsK (turn a)]]) rfl ?_
      refine A.freezeRow 23 rfl ?_
      refine A.emptyRow 16 6 rfl fun z0 => ?_
      refine A.appendRowE rfl rfl rfl rfl rfl rfl rfl rfl rfl rfl rfl rfl rfl rfl (Nat.le_of_ble_eq_true rfl) (Nat.le_of_ble_eq_true rfl) fun z1 => ?_
      (repeat (first | first | refine A.stepY rfl ?_ | refine A.loadY rfl rfl rfl rfl rfl rfl ?_ | refine A.store rfl rfl rfl rfl rfl rfl rfl ?_ | refine A.condT rfl ?_ | refine A.condF rfl ?_ | refine A.skip rfl rfl ?_ | refine A.skipU rfl rfl rfl ?_ | refine A.pickT rfl rfl rfl rfl rfl ?_ | refine A.pickF rfl rfl rfl rfl rfl ?_ | refine A.alloc rfl rfl rfl rfl rfl rfl fun bx => ?_ | refine A.box rfl rfl rfl rfl rfl rfl rfl fun bx => ?_ | refine A.lit rfl rfl rfl rfl rfl fun bl => ?_ | first | refine A.step rfl ?_ | refine A.load rfl rfl rfl rfl rfl rfl ?_)); refine A.again ?_; (repeat (first | first | refine A.stepY rfl ?_ | refine A.loadY rfl rfl rfl rfl rfl rfl ?_ | refine A.store rfl rfl rfl rfl rfl rfl rfl ?_ | refine A.condT rfl ?_ | refine A.condF rfl ?_ | refine A.skip rfl rfl ?_ | refine A.skipU rfl rfl rfl ?_ | refine A.pickT rfl rfl rfl rfl rfl ?_ | refine A.pickF rfl rfl rfl rfl rfl ?_ | refine A.alloc rfl rfl rfl rfl rfl rfl fun bx => ?_ | refine A.box rfl rfl rfl rfl rfl rfl rfl fun bx => ?_ | refine A.lit rfl rfl rfl rfl rfl fun bl => ?_ | first | refine A.step rfl ?_ | refine A.load rfl rfl rfl rfl rfl rfl ?_))
      refine A.freezeRowV 2 z1 rfl (by repeat (first | exact Fz.ms | apply Fz.ag | apply FzL.cons | exact FzL.sub .refl | exact Fz.sub .refl)) ?_
      refine A.retC (Λ' := []) rfl rfl rfl rfl rfl (by repeat (first | exact List.Sublist.refl _ | apply List.Sublist.cons_cons | apply List.Sublist.cons)) ⟨?_, rfl⟩
      rw [encK_eq (turn a)]; (repeat (first | exact Sb.refl | exact SbL.refl | refine SbL.cons ?_ ?_ | exact Sb.nil | exact Sb.own1 | refine Sb.own ?_ | refine Sb.ag ?_ | refine Sb.tp ?_))
    | [a, b], _ =>
      simp only [turn, turnl, sw, encK, encKl]
      refine Pure.of (S := tt) (fn := Tryd.f16) (n := 46) tt_ok Tryd.func16 rfl rfl rfl rfl fun w0 h0 F hgs => ?_
      (repeat (first | first | refine A.stepY rfl ?_ | refine A.loadY rfl rfl rfl rfl rfl rfl ?_ | refine A.store rfl rfl rfl rfl rfl rfl rfl ?_ | refine A.condT rfl ?_ | refine A.condF rfl ?_ | refine A.skip rfl rfl ?_ | refine A.skipU rfl rfl rfl ?_ | refine A.pickT rfl rfl rfl rfl rfl ?_ | refine A.pickF rfl rfl rfl rfl rfl ?_ | refine A.alloc rfl rfl rfl rfl rfl rfl fun bx => ?_ | refine A.box rfl rfl rfl rfl rfl rfl rfl fun bx => ?_ | refine A.lit rfl rfl rfl rfl rfl fun bl => ?_ | first | refine A.step rfl ?_ | refine A.load rfl rfl rfl rfl rfl rfl ?_)); refine A.loop1 ?_; (repeat (first | first | refine A.stepY rfl ?_ | refine A.loadY rfl rfl rfl rfl rfl rfl ?_ | refine A.store rfl rfl rfl rfl rfl rfl rfl ?_ | refine A.condT rfl ?_ | refine A.condF rfl ?_ | refine A.skip rfl rfl ?_ | refine A.skipU rfl rfl rfl ?_ | refine A.pickT rfl rfl rfl rfl rfl ?_ | refine A.pickF rfl rfl rfl rfl rfl ?_ | refine A.alloc rfl rfl rfl rfl rfl rfl fun bx => ?_ | refine A.box rfl rfl rfl rfl rfl rfl rfl fun bx => ?_ | refine A.lit rfl rfl rfl rfl rfl fun bl => ?_ | first | refine A.step rfl ?_ | refine A.load rfl rfl rfl rfl rfl rfl ?_))
      refine A.draw 9 [0, 1, 2, 3, 4, 5, 6, 7, 8] noPubs [(7, encK (turn a))] (by kernel_rfl) (by kernel_rfl) ?_
      ((repeat (first | refine WA.stepY rfl ?_ | refine WA.loadY rfl rfl rfl rfl rfl rfl rfl ?_ | refine WA.skip rfl rfl rfl ?_ | refine WA.skipU rfl rfl rfl rfl ?_ | refine WA.pickT rfl rfl rfl rfl rfl rfl ?_ | refine WA.pickF rfl rfl rfl rfl rfl rfl ?_ | refine WA.step rfl ?_ | refine WA.load rfl rfl rfl rfl rfl rfl rfl ?_)); refine WA.index rfl rfl rfl rfl rfl rfl rfl rfl rfl (by decide) (by rfl) (encK_eq _) rfl ?_; (repeat (first | refine WA.stepY rfl ?_ | refine WA.loadY rfl rfl rfl rfl rfl rfl rfl ?_ | refine WA.skip rfl rfl rfl ?_ | refine WA.skipU rfl rfl rfl rfl ?_ | refine WA.pickT rfl rfl rfl rfl rfl rfl ?_ | refine WA.pickF rfl rfl rfl rfl rfl rfl ?_ | refine WA.step rfl ?_ | refine WA.load rfl rfl rfl rfl rfl rfl rfl ?_)); refine WA.valE 21 rfl (encK_eq _).symm ?_; refine WA.callP rfl rfl rfl rfl rfl rfl rfl rfl rfl rfl (hd _ (by simp)) (.sub (by repeat (first | exact Sb.refl | exact SbL.refl | refine SbL.cons ?_ ?_ | exact Sb.nil | exact Sb.own1 | refine Sb.own ?_ | refine Sb.ag ?_ | refine Sb.tp ?_))) ?_; refine WA.valE 22 rfl (encK_eq _) ?_; (repeat (first | refine WA.stepY rfl ?_ | refine WA.loadY rfl rfl rfl rfl rfl rfl rfl ?_ | refine WA.skip rfl rfl rfl ?_ | refine WA.skipU rfl rfl rfl rfl ?_ | refine WA.pickT rfl rfl rfl rfl rfl rfl ?_ | refine WA.pickF rfl rfl rfl rfl rfl rfl ?_ | refine WA.step rfl ?_ | refine WA.load rfl rfl rfl rfl rfl rfl rfl ?_)); refine WA.lit rfl rfl rfl rfl rfl rfl rfl fun bw => ?_; (repeat (first | refine WA.stepY rfl ?_ | refine WA.loadY rfl rfl rfl rfl rfl rfl rfl ?_ | refine WA.skip rfl rfl rfl ?_ | refine WA.skipU rfl rfl rfl rfl ?_ | refine WA.pickT rfl rfl rfl rfl rfl rfl ?_ | refine WA.pickF rfl rfl rfl rfl rfl rfl ?_ | refine WA.step rfl ?_ | refine WA.load rfl rfl rfl rfl rfl rfl rfl ?_)))
      refine WA.nil (l := [.row 6 _ [cellsK (turn a)]]) rfl ?_
      refine A.freezeRow 23 rfl ?_
      refine A.emptyRow 16 6 rfl fun z0 => ?_
      refine A.appendRowE rfl rfl rfl rfl rfl rfl rfl rfl rfl rfl rfl rfl rfl rfl (Nat.le_of_ble_eq_true rfl) (Nat.le_of_ble_eq_true rfl) fun z1 => ?_
      (repeat (first | first | refine A.stepY rfl ?_ | refine A.loadY rfl rfl rfl rfl rfl rfl ?_ | refine A.store rfl rfl rfl rfl rfl rfl rfl ?_ | refine A.condT rfl ?_ | refine A.condF rfl ?_ | refine A.skip rfl rfl ?_ | refine A.skipU rfl rfl rfl ?_ | refine A.pickT rfl rfl rfl rfl rfl ?_ | refine A.pickF rfl rfl rfl rfl rfl ?_ | refine A.alloc rfl rfl rfl rfl rfl rfl fun bx => ?_ | refine A.box rfl rfl rfl rfl rfl rfl rfl fun bx => ?_ | refine A.lit rfl rfl rfl rfl rfl fun bl => ?_ | first | refine A.step rfl ?_ | refine A.load rfl rfl rfl rfl rfl rfl ?_)); refine A.again ?_; (repeat (first | first | refine A.stepY rfl ?_ | refine A.loadY rfl rfl rfl rfl rfl rfl ?_ | refine A.store rfl rfl rfl rfl rfl rfl rfl ?_ | refine A.condT rfl ?_ | refine A.condF rfl ?_ | refine A.skip rfl rfl ?_ | refine A.skipU rfl rfl rfl ?_ | refine A.pickT rfl rfl rfl rfl rfl ?_ | refine A.pickF rfl rfl rfl rfl rfl ?_ | refine A.alloc rfl rfl rfl rfl rfl rfl fun bx => ?_ | refine A.box rfl rfl rfl rfl rfl rfl rfl fun bx => ?_ | refine A.lit rfl rfl rfl rfl rfl fun bl => ?_ | first | refine A.step rfl ?_ | refine A.load rfl rfl rfl rfl rfl rfl ?_))
      refine A.draw 9 [0, 1, 2, 3, 4, 5, 6, 7, 8] noPubs [(7, encK (turn b))] (by kernel_rfl) (by kernel_rfl) ?_
      ((repeat (first | refine WA.stepY rfl ?_ | refine WA.loadY rfl rfl rfl rfl rfl rfl rfl ?_ | refine WA.skip rfl rfl rfl ?_ | refine WA.skipU rfl rfl rfl rfl ?_ | refine WA.pickT rfl rfl rfl rfl rfl rfl ?_ | refine WA.pickF rfl rfl rfl rfl rfl rfl ?_ | refine WA.step rfl ?_ | refine WA.load rfl rfl rfl rfl rfl rfl rfl ?_)); refine WA.index rfl rfl rfl rfl rfl rfl rfl rfl rfl (by decide) (by rfl) (encK_eq _) rfl ?_; (repeat (first | refine WA.stepY rfl ?_ | refine WA.loadY rfl rfl rfl rfl rfl rfl rfl ?_ | refine WA.skip rfl rfl rfl ?_ | refine WA.skipU rfl rfl rfl rfl ?_ | refine WA.pickT rfl rfl rfl rfl rfl rfl ?_ | refine WA.pickF rfl rfl rfl rfl rfl rfl ?_ | refine WA.step rfl ?_ | refine WA.load rfl rfl rfl rfl rfl rfl rfl ?_)); refine WA.valE 21 rfl (encK_eq _).symm ?_; refine WA.callP rfl rfl rfl rfl rfl rfl rfl rfl rfl rfl (hd _ (by simp)) (.sub (by repeat (first | exact Sb.refl | exact SbL.refl | refine SbL.cons ?_ ?_ | exact Sb.nil | exact Sb.own1 | refine Sb.own ?_ | refine Sb.ag ?_ | refine Sb.tp ?_))) ?_; refine WA.valE 22 rfl (encK_eq _) ?_; (repeat (first | refine WA.stepY rfl ?_ | refine WA.loadY rfl rfl rfl rfl rfl rfl rfl ?_ | refine WA.skip rfl rfl rfl ?_ | refine WA.skipU rfl rfl rfl rfl ?_ | refine WA.pickT rfl rfl rfl rfl rfl rfl ?_ | refine WA.pickF rfl rfl rfl rfl rfl rfl ?_ | refine WA.step rfl ?_ | refine WA.load rfl rfl rfl rfl rfl rfl rfl ?_)); refine WA.lit rfl rfl rfl rfl rfl rfl rfl fun bw => ?_; (repeat (first | refine WA.stepY rfl ?_ | refine WA.loadY rfl rfl rfl rfl rfl rfl rfl ?_ | refine WA.skip rfl rfl rfl ?_ | refine WA.skipU rfl rfl rfl rfl ?_ | refine WA.pickT rfl rfl rfl rfl rfl rfl ?_ | refine WA.pickF rfl rfl rfl rfl rfl rfl ?_ | refine WA.step rfl ?_ | refine WA.load rfl rfl rfl rfl rfl rfl rfl ?_)))
      refine WA.nil (l := [.row 6 _ [cellsK (turn b)]]) rfl ?_
      refine A.freezeRow 23 rfl ?_
      refine A.appendRowE rfl rfl rfl rfl rfl rfl rfl rfl rfl rfl rfl rfl rfl rfl (Nat.le_of_ble_eq_true rfl) (Nat.le_of_ble_eq_true rfl) fun z2 => ?_
      (repeat (first | first | refine A.stepY rfl ?_ | refine A.loadY rfl rfl rfl rfl rfl rfl ?_ | refine A.store rfl rfl rfl rfl rfl rfl rfl ?_ | refine A.condT rfl ?_ | refine A.condF rfl ?_ | refine A.skip rfl rfl ?_ | refine A.skipU rfl rfl rfl ?_ | refine A.pickT rfl rfl rfl rfl rfl ?_ | refine A.pickF rfl rfl rfl rfl rfl ?_ | refine A.alloc rfl rfl rfl rfl rfl rfl fun bx => ?_ | refine A.box rfl rfl rfl rfl rfl rfl rfl fun bx => ?_ | refine A.lit rfl rfl rfl rfl rfl fun bl => ?_ | first | refine A.step rfl ?_ | refine A.load rfl rfl rfl rfl rfl rfl ?_)); refine A.again ?_; (repeat (first | first | refine A.stepY rfl ?_ | refine A.loadY rfl rfl rfl rfl rfl rfl ?_ | refine A.store rfl rfl rfl rfl rfl rfl rfl ?_ | refine A.condT rfl ?_ | refine A.condF rfl ?_ | refine A.skip rfl rfl ?_ | refine A.skipU rfl rfl rfl ?_ | refine A.pickT rfl rfl rfl rfl rfl ?_ | refine A.pickF rfl rfl rfl rfl rfl ?_ | refine A.alloc rfl rfl rfl rfl rfl rfl fun bx => ?_ | refine A.box rfl rfl rfl rfl rfl rfl rfl fun bx => ?_ | refine A.lit rfl rfl rfl rfl rfl fun bl => ?_ | first | refine A.step rfl ?_ | refine A.load rfl rfl rfl rfl rfl rfl ?_))
      refine A.indexRow rfl rfl rfl rfl rfl rfl rfl rfl (by decide) (by simp) rfl ?_
      refine A.loadRow rfl rfl rfl rfl rfl rfl (y' := cellsK (turn a)) rfl rfl rfl rfl ?_
      (repeat (first | first | refine A.stepY rfl ?_ | refine A.loadY rfl rfl rfl rfl rfl rfl ?_ | refine A.store rfl rfl rfl rfl rfl rfl rfl ?_ | refine A.condT rfl ?_ | refine A.condF rfl ?_ | refine A.skip rfl rfl ?_ | refine A.skipU rfl rfl rfl ?_ | refine A.pickT rfl rfl rfl rfl rfl ?_ | refine A.pickF rfl rfl rfl rfl rfl ?_ | refine A.alloc rfl rfl rfl rfl rfl rfl fun bx => ?_ | refine A.box rfl rfl rfl rfl rfl rfl rfl fun bx => ?_ | refine A.lit rfl rfl rfl rfl rfl fun bl => ?_ | first | refine A.step rfl ?_ | refine A.load rfl rfl rfl rfl rfl rfl ?_))
      refine A.draw 6 [0, 1, 2, 3, 4, 5] noPubs [] (by kernel_rfl) (by kernel_rfl) ?_
      (repeat (first | refine WA.stepY rfl ?_ | refine WA.loadY rfl rfl rfl rfl rfl rfl rfl ?_ | refine WA.skip rfl rfl rfl ?_ | refine WA.skipU rfl rfl rfl rfl ?_ | refine WA.pickT rfl rfl rfl rfl rfl rfl ?_ | refine WA.pickF rfl rfl rfl rfl rfl rfl ?_ | refine WA.step rfl ?_ | refine WA.load rfl rfl rfl rfl rfl rfl rfl ?_))
      refine WA.indexRow rfl rfl rfl rfl rfl rfl rfl rfl rfl (by decide) (by simp) rfl ?_
      refine WA.loadRow rfl rfl rfl rfl rfl rfl rfl (y' := cellsK (turn b)) rfl rfl rfl rfl ?_
      refine WA.nil (l := []) rfl ?_
      (repeat (first | first | refine A.stepY rfl ?_ | refine A.loadY rfl rfl rfl rfl rfl rfl ?_ | refine A.store rfl rfl rfl rfl rfl rfl rfl ?_ | refine A.condT rfl ?_ | refine A.condF rfl ?_ | refine A.skip rfl rfl ?_ | refine A.skipU rfl rfl rfl ?_ | refine A.pickT rfl rfl rfl rfl rfl ?_ | refine A.pickF rfl rfl rfl rfl rfl ?_ | refine A.alloc rfl rfl rfl rfl rfl rfl fun bx => ?_ | refine A.box rfl rfl rfl rfl rfl rfl rfl fun bx => ?_ | refine A.lit rfl rfl rfl rfl rfl fun bl => ?_ | first | refine A.step rfl ?_ | refine A.load rfl rfl rfl rfl rfl rfl ?_))
      refine A.indexRow rfl rfl rfl rfl rfl rfl rfl rfl (by decide) (by simp) rfl ?_
      refine A.storeRow rfl rfl rfl rfl rfl rfl rfl rfl rfl (by simp) (xs' := [cellsK (turn b), cellsK (turn b)]) rfl ?_
      (repeat (first | first | refine A.stepY rfl ?_ | refine A.loadY rfl rfl rfl rfl rfl rfl ?_ | refine A.store rfl rfl rfl rfl rfl rfl rfl ?_ | refine A.condT rfl ?_ | refine A.condF rfl ?_ | refine A.skip rfl rfl ?_ | refine A.skipU rfl rfl rfl ?_ | refine A.pickT rfl rfl rfl rfl rfl ?_ | refine A.pickF rfl rfl rfl rfl rfl ?_ | refine A.alloc rfl rfl rfl rfl rfl rfl fun bx => ?_ | refine A.box rfl rfl rfl rfl rfl rfl rfl fun bx => ?_ | refine A.lit rfl rfl rfl rfl rfl fun bl => ?_ | first | refine A.step rfl ?_ | refine A.load rfl rfl rfl rfl rfl rfl ?_))
      refine A.indexRow rfl rfl rfl rfl rfl rfl rfl rfl (by decide) (by simp) rfl ?_
      refine A.storeRow rfl rfl rfl rfl rfl rfl rfl rfl rfl (by simp) (xs' := [cellsK (turn b), cellsK (turn a)]) rfl ?_
      (repeat (first | first | refine A.stepY rfl ?_ | refine A.loadY rfl rfl rfl rfl rfl rfl ?_ | refine A.store rfl rfl rfl rfl rfl rfl rfl ?_ | refine A.condT rfl ?_ | refine A.condF rfl ?_ | refine A.skip rfl rfl ?_ | refine A.skipU rfl rfl rfl ?_ | refine A.pickT rfl rfl rfl rfl rfl ?_ | refine A.pickF rfl rfl rfl rfl rfl ?_ | refine A.alloc rfl rfl rfl rfl rfl rfl fun bx => ?_ | refine A.box rfl rfl rfl rfl rfl rfl rfl fun bx => ?_ | refine A.lit rfl rfl rfl rfl rfl fun bl => ?_ | first | refine A.step rfl ?_ | refine A.load rfl rfl rfl rfl rfl rfl ?_))
      refine A.freezeRowV 2 z2 rfl (by repeat (first | exact Fz.ms | apply Fz.ag | apply FzL.cons | exact FzL.sub .refl | exact Fz.sub .refl)) ?_
      refine A.retC (Λ' := []) rfl rfl rfl rfl rfl (by repeat (first | exact List.Sublist.refl _ | apply List.Sublist.cons_cons | apply List.Sublist.cons)) ⟨?_, rfl⟩
      rw [encK_eq (turn a), encK_eq (turn b)]; (repeat (first | exact Sb.refl | exact SbL.refl | refine SbL.cons ?_ ?_ | exact Sb.nil | exact Sb.own1 | refine Sb.own ?_ | refine Sb.ag ?_ | refine Sb.tp ?_))
    | a :: b :: c :: r, h => exact absurd h (by simp)
end Go.Proofs.YtppapfhfkkafdaaDoor
