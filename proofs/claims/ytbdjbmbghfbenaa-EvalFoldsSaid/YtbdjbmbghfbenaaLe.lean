/-
  This project's own program logic, part Le (Tq3): generic texts, for any program. Conditions: as each theorem says.
-/
import Derived.Test.YtbdjbmbghfbenaaLd
import Derived.Laws.BytesString
/-! Tq3 -/
namespace Go.Tp
open Go Go.RowKit
set_option linter.unusedVariables false
set_option linter.unusedSimpArgs false
theorem RpC_u8 {h : GH} : ∀ {l : List Int} {vs : List Value}, RpC h (l.map fun n => .v (.int .u8 n)) vs → vs = l.map (Value.int .u8)
  | [], vs, r => by rw [List.map_nil, RpC_nil] at r; exact r
  | n :: l, vs, r => by
    rw [List.map_cons, RpC_cons] at r
    obtain ⟨v, vs', rfl, r1, r2⟩ := r
    rw [Rp_v] at r1
    rw [r1.1, RpC_u8 r2]; rfl
theorem push_all : ∀ (l : List Int) (s : ByteArray), l.foldl (fun r n => r.push (UInt8.ofNat n.toNat)) s = ⟨s.data ++ (l.map fun n => UInt8.ofNat n.toNat).toArray⟩
  | [], s => by simp
  | n :: l, s => by
    rw [List.foldl_cons, push_all l]
    simp [ByteArray.push]
section
variable {K : AC} {k : List It} {E : AEnv} {Λ : List AEnt}
theorem A.bytesStr {all : Array Oper} {o : Oper} {l' : List Oper} {ks : List (Nat × Bool)} {t d el : TypeId} {ti di ei : TI} {x : Operand} {l : List Int} {own : Option Value} {E' : AEnv} {s : List UInt8}
    (hg : gyesA E all o.guard = some ks) (ho : o.op = .convert t d x) (hx : E.ev K.gs ks x = some (.sl 1 (l.map fun n => .v (.int .u8 n)) own)) (ht : K.S.get t = some ti) (hdd : ti.d = .slice el) (he : K.S.get el = some ei) (hee : ei.d = .int .u8)
    (hdt : K.S.get d = some di) (hds : di.d = .string) (hs : (l.map fun n => UInt8.ofNat n.toNat) = s) (hput : E.put K.n none o.dst (AS s) = some E') (next : A K (.ops all l' :: k) E' Λ) : A K (.ops all (o :: l') :: k) E Λ := by
  refine A.valueY hg (fun h e L hl r q => ?_) hput next
  obtain ⟨v, e1, f1⟩ := r.ev (K.hgs.mono hl) _ hx
  refine ⟨.string (BS s), Rp_v.2 ⟨rfl, rfl⟩, fun a w g st hk => ?_⟩
  have okt := TT.Ok.get K.ok ht
  have oke := TT.Ok.get K.ok he
  have okd := TT.Ok.get K.ok hdt
  rw [Rp_sl] at f1
  obtain ⟨ad, cap, rfl, hc, _, hn⟩ := f1
  unfold execOp
  rw [ho]
  simp only [g.ev hk e1, Sem.run_bind, Sem.run_pure]
  rw [run_convert_bytes_string w t d el ad _ cap (by rw [okt.und, hdd]) (by rw [oke.und, hee]) (by rw [okd.und, hds])]
  rw [List.length_map]
  cases ad with
  | none =>
    have hl0 : l = [] := by
      cases l with
      | nil => rfl
      | cons n l => obtain ⟨b, o, h1, _⟩ := hn (by simp); cases h1
    subst hl0
    subst hs
    simp [Conv.bytesToString]; rfl
  | some ad =>
    have key : (loadCells ad l.length).run K.P w = .ok (l.map (Value.int .u8)).toArray w := by
      cases l with
      | nil => simp [loadCells, loadCellsFrom]
      | cons n l =>
        obtain ⟨b, o, h1, h2⟩ := hn (by simp)
        injection h1 with h1; subst h1
        obtain ⟨zs, z1, z2, z3⟩ := RpE_cat h2
        have hz := RpC_u8 z1
        have hcat : catL zs = (n :: l).map (Value.int .u8) := by
          rw [hz]; unfold catL
          generalize (n :: l) = m
          induction m with
          | nil => rfl
          | cons y m ih => rw [List.map_cons, List.flatMap_cons, ih]; rfl
        rw [hcat] at z3
        have := run_loadCellsAt (P := K.P) (w := w) (b := b) (o := o) (vs := (n :: l).map (Value.int .u8)) (fun i v hv => st.imm _ _ _ (z3 i v hv))
        rw [List.length_map] at this
        exact this
    rw [run_bytesToString w ad l.length cap l key]
    subst hs
    rw [push_all]
    simp
/-- a full slice has no spare places -/
theorem A.fullTail (sz n : Nat) (a : Option Addr) (ha : a = none → n = 0) (hs : ∀ x, a = some x → x.spot = none) (next : A K k E (.tail sz (.slice a n n) :: Λ)) : A K k E Λ :=
  ⟨fun h e L hl r q => by
    obtain ⟨p, h1, h2, h3⟩ := Tl.full sz n a ha hs
    exact V.hollow (C := K.cfg) p h2 h3 (next.run h e (p :: L) hl r (.one ⟨p, h1, rfl⟩ q))⟩
/-- what a variable holds, said otherwise -/
theorem A.boxAs {b : Nat} {x x' : AV} {Λ' : List AEnt} (hp : Λ.Perm (.box b x :: Λ')) (hx : ∀ (h : GH) y, Rp h x y → Rp h x' y) (next : A K k E (.box b x' :: Λ')) : A K k E Λ := by
  refine A.perm hp (A.ents (Λ' := .box b x' :: Λ') (fun h L q => ?_) next)
  obtain ⟨L1, L2, rfl, q1, q2⟩ := q
  obtain ⟨z, r, rfl⟩ := q1
  exact ⟨_, ⟨_, L2, rfl, ⟨z, hx h z r, rfl⟩, q2⟩, .refl _⟩
/-- nil as an empty slice with its spare places -/
theorem nil_own {h : GH} (sz : Nat) {y : Value} (r : Rp h (.v (.slice none 0 0)) y) : Rp h (.sl sz [] (some (.slice none 0 0))) y := by
  rw [Rp_v] at r; rw [r.1, Rp_sl]
  exact ⟨none, 0, rfl, Nat.le_refl _, rfl, fun hn => (hn rfl).elim⟩
theorem RpC_imp {h : GH} {x x' : AV} {l l' : List AV} (h1 : ∀ y, Rp h x y → Rp h x' y) (h2 : ∀ vs, RpC h l vs → RpC h l' vs) : ∀ vs, RpC h (x :: l) vs → RpC h (x' :: l') vs := fun vs r => by
  rw [RpC_cons] at r ⊢
  obtain ⟨v, vs', rfl, r1, r2⟩ := r
  exact ⟨v, vs', rfl, h1 v r1, h2 vs' r2⟩
theorem Rp_ag_imp {h : GH} {l l' : List AV} (h1 : ∀ vs, RpC h l vs → RpC h l' vs) : ∀ y, Rp h (.ag l) y → Rp h (.ag l') y := fun y r => by
  rw [Rp_ag] at r ⊢
  obtain ⟨cs, rfl, r⟩ := r
  exact ⟨cs, rfl, h1 cs r⟩
end
end Go.Tp
