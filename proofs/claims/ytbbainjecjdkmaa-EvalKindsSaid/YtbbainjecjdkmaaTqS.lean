/-
  Data: append of a fresh slice, of any length that memory bears.
-/
import Derived.Test.YtbbainjecjdkmaaTqR
namespace Go.Tp
open Go Go.RowKit
set_option linter.unusedVariables false
set_option linter.unusedSimpArgs false

section
variable {C : Cfg} {k : List It} {e : Env} {h : GH} {L : List Ent}
theorem run_appendNewW {P : Program} {S : TT} (hS : S.Ok P) {w0 w : World} {h : GH} {L : List Ent} {t el ty : TypeId} {ti ei : TI} {v2 : Value} {c2 : List Value} (a : Option Addr) (ha : ∀ x, a = some x → x.spot = none)
    (ht : S.get t = some ti) (hd : ti.d = .slice el) (he : S.get el = some ei) (hsz : 0 < ei.size) (hz1 : allOne ei.zero = true) 
    (s : St w0 h L w) (a2 : Sl h ei.size v2 c2) (hb : c2.length ≤ 281474976710656) (hby : c2.length * ei.bytes ≤ 140737488355328) :
    ∃ v' w' p, (Builtin.append_ #[t, t] ty #[.slice a 0 0, v2]).run P w = .ok v' w' ∧ St w0 h (p :: L) w' ∧ p.obj = none ∧
      ∃ a' n cap, v' = .slice a' n cap ∧ n ≤ cap ∧ c2.length = n * ei.size ∧ ((c2 = [] ∧ p.cs = [] ∧ cap = 0 ∧ ∀ y, a' = some y → y.spot = none) ∨ ∃ b sp, a' = some ⟨b, 0, none⟩ ∧ p = ⟨b, 0, c2 ++ sp, none⟩ ∧ sp.length = (cap - n) * ei.size) := by
  have ok := TT.Ok.get hS ht
  have oke := TT.Ok.get hS he
  obtain ⟨xi, zv, hxi, hxs, hxb, hxz, hzl⟩ := oke.info
  have hund : P.underlying t = some (.slice el) := by rw [ok.und, hd]
  have one2 := Sl.one s hsz a2
  obtain ⟨b2, n2, cap2, e2, hle2, hn2, hat2⟩ := a2
  subst e2
  have hl2 : n2 ≤ c2.length := by rw [hn2]; exact Nat.le_mul_of_pos_right _ hsz
  have hz : Builtin.zeroCells zv.cells = fun n => ⟨(List.replicate n ei.zero).flatten⟩ := by
    funext n
    rw [show zv.cells = ⟨ei.zero⟩ from by rw [← hzl]]
    refine zeroCells_eq _ _ ?_
    intro e
    have := oke.len
    rw [e] at this; simp at this; omega
  rcases Nat.eq_zero_or_pos n2 with h20 | h2p
  · subst h20
    have hc2 : c2 = [] := List.length_eq_zero_iff.1 (by simpa using hn2)
    subst hc2
    refine ⟨.slice a 0 0, w, ⟨0, 0, [], none⟩, ?_, hollow_st s _ rfl rfl, rfl, a, 0, 0, rfl, Nat.le_refl _, by simp, .inl ⟨rfl, rfl, rfl, ha⟩⟩
    have hf : ∀ w' : World, (Builtin.firstCells xi.size 0 (.slice b2 0 cap2)).run P w' = .ok #[] w' := fun w' => by cases b2 <;> simp [Builtin.firstCells, loadCells, loadCellsFrom]
    cases a with
    | none => simp [Builtin.append_, Go.run_underlying hund, sizeOf, typeInfo, hxi, Builtin.lenOf, hf]
    | some a => simp [Builtin.append_, Go.run_underlying hund, sizeOf, typeInfo, hxi, Builtin.lenOf, hf, storeCells]
  · obtain ⟨b, o2, rfl, y2⟩ := hat2 h2p
    have hnews : ∀ j u, c2[j]? = some u → w.cell? ((⟨b, o2, none⟩ : Addr).add j) = some u := fun j u hu => by rw [add_norm]; exact s.imm _ _ _ (y2 j u hu)
    have hfin : ∀ (nc : Nat), n2 ≤ nc → ∀ arr : Array Value, arr = ⟨c2 ++ (List.replicate (nc - n2) ei.zero).flatten⟩ →
        St w0 h (⟨w.heap.size, 0, c2 ++ (List.replicate (nc - n2) ei.zero).flatten, none⟩ :: L) (w.drew.alloc (.cells arr el)) := fun nc _ arr harr => by
      have honer : ∀ v, v ∈ (List.replicate (nc - n2) ei.zero).flatten → oneC v = true := fun v hv => by
        obtain ⟨l, hl, hvl⟩ := List.mem_flatten.1 hv
        have := (List.mem_replicate.1 hl).2
        subst this
        exact allOne_mem hz1 v hvl
      have := s.drew.alloc arr el (by rw [harr]; exact allOne_of (allOne_append one2 honer))
      rw [harr] at this ⊢
      exact this
    cases a with
    | none =>
      have hr := run_append_nil (P := P) w t ty el xi zv hund hxi hxz ⟨b, o2, none⟩ n2 cap2 c2 (by rw [hxs]; exact hn2) hnews h2p (by omega) (by
        rw [hxb]
        have : n2 * ei.bytes ≤ c2.length * ei.bytes := Nat.mul_le_mul_right _ hl2
        omega)
      exact ⟨_, _, _, hr, hfin (grownCap w n2 0 el) (grownCap_ge ..) _ (by rw [hz]; apply Array.ext'; simp), rfl, _, _, _, rfl, grownCap_ge .., hn2, .inr ⟨_, _, rfl, rfl, by simp only [List.length_flatten, List.map_replicate, List.sum_replicate_nat, oke.len]⟩⟩
    | some x =>
      obtain ⟨bb, o, sp⟩ := x
      have := ha _ rfl
      simp only at this; subst this
      have hr := run_append_grow (P := P) w t ty el xi zv hund hxi hxz ⟨bb, o, none⟩ 0 0 [] (by simp) (fun j u hu => by simp at hu) ⟨b, o2, none⟩ n2 cap2 c2 (by rw [hxs]; exact hn2) hnews (by omega) (by omega) (growslice_fits (by omega) (by
        rw [hxb]
        have : (0 + n2) * ei.bytes ≤ c2.length * ei.bytes := Nat.mul_le_mul_right _ (by omega)
        omega))
      rw [Nat.zero_add] at hr
      exact ⟨_, _, _, hr, hfin (grownCap w n2 0 el) (grownCap_ge ..) _ (by rw [hz]; apply Array.ext'; simp), rfl, _, _, _, rfl, grownCap_ge .., hn2, .inr ⟨_, _, rfl, rfl, by simp only [List.length_flatten, List.map_replicate, List.sum_replicate_nat, oke.len]⟩⟩
theorem V.appendNewW {all : Array Oper} {o : Oper} {l : List Oper} {ks : List (Nat × Bool)} {y1 y2 : Operand} {t el : TypeId} {ti ei : TI} {a : Option Addr} {v2 : Value} {c2 : List Value} {d : Nat} (ha : ∀ x, a = some x → x.spot = none)
    (hg : gyes e all o.guard = some ks) (ho : o.op = .call ⟨.builtin .append, #[y1, y2], #[t, t]⟩) (h1 : e.ev ks y1 = some (.slice a 0 0)) (h2 : e.ev ks y2 = some v2)
    (ht : C.S.get t = some ti) (hd : ti.d = .slice el) (he : C.S.get el = some ei) (hsz : 0 < ei.size) (hz1 : allOne ei.zero = true) (hdst : o.dst = some d) (hc : okPut C.n e d = true)
    (a2 : Sl h ei.size v2 c2) (hb : c2.length ≤ 281474976710656) (hby : c2.length * ei.bytes ≤ 140737488355328)
    (next : ∀ p a' n cap, p.obj = none → n ≤ cap → c2.length = n * ei.size → ((c2 = [] ∧ p.cs = [] ∧ cap = 0 ∧ ∀ y, a' = some y → y.spot = none) ∨ ∃ b sp, a' = some ⟨b, 0, none⟩ ∧ p = ⟨b, 0, c2 ++ sp, none⟩ ∧ sp.length = (cap - n) * ei.size) →
      V C (.ops all l :: k) ⟨(d, .slice a' n cap) :: e.us, e.cs⟩ h (p :: L)) : V C (.ops all (o :: l) :: k) e h L :=
  V.gives hg hdst hc fun ac w g s hk => by
    obtain ⟨v', w', p, r1, r2, r3, a', n, cap, rfl, r4, r5, r6⟩ := run_appendNewW (ty := o.type) C.ok a ha ht hd he hsz hz1 s a2 hb hby
    refine ⟨_, w', h, _, ?_, r2, next p a' n cap r3 r4 r5 r6⟩
    unfold execOp
    rw [ho]
    simp [resolve, invoke, builtin, g.ev hk h1, g.ev hk h2, r1]
end
section
variable {K : AC} {k : List It} {E : AEnv} {Λ : List AEnt}
theorem A.appendNewW {all : Array Oper} {o : Oper} {l : List Oper} {ks : List (Nat × Bool)} {y1 y2 : Operand} {t el : TypeId} {ti ei : TI} {x1 x2 : AV} {l1 l2 : List AV} {a : Option Addr} {own2 : Option Value} {d : Nat}
    (hg : gyesA E all o.guard = some ks) (ho : o.op = .call ⟨.builtin .append, #[y1, y2], #[t, t]⟩) (h1 : E.ev K.gs ks y1 = some x1) (h2 : E.ev K.gs ks y2 = some x2)
    (ht : K.S.get t = some ti) (hdd : ti.d = .slice el) (he : K.S.get el = some ei) (s1 : slOf ei.size x1 = some (l1, some (.slice a 0 0))) (s2 : slOf ei.size x2 = some (l2, own2))
    (hsz : Nat.blt 0 ei.size = true) (hz1 : allOne ei.zero = true) (hd : o.dst = some d) (hc : okPutA K.n E d = true)
    (hb : l2.length * ei.size ≤ 281474976710656) (hby : l2.length * ei.size * ei.bytes ≤ 140737488355328) (ha : ∀ x, a = some x → x.spot = none) (hone : ∀ (h : GH) zs, RpC h l2 zs → ∀ z, z ∈ zs → allOne (cellsL z) = true)
    (next : ∀ z, A K (.ops all l :: k) ⟨(d, .ms z ei.size l2.length) :: E.us, E.cs⟩ (.row ei.size z l2 :: Λ)) : A K (.ops all (o :: l) :: k) E Λ := by
  refine ⟨fun h e L hl r q => ?_⟩
  obtain ⟨v1, e1, f1⟩ := r.ev (K.hgs.mono hl) _ h1
  obtain ⟨v2, e2, f2⟩ := r.ev (K.hgs.mono hl) _ h2
  have f1 := slOf_rp s1 f1
  have f2 := slOf_rp s2 f2
  have hown : v1 = .slice a 0 0 := by rw [Rp_sl] at f1; obtain ⟨_, _, _, _, h3, _⟩ := f1; exact h3
  subst hown
  obtain ⟨zs2, b1, b2, b3⟩ := sl_Sl f2
  have hsz' : 0 < ei.size := by simpa [Nat.blt_eq] using hsz
  have hlen : (catL zs2).length = l2.length * ei.size := by rw [cat_len b2, b1.len]
  refine V.appendNewW (C := K.cfg) ha (gyesA_eq r hg) ho e1 e2 ht hdd he hsz' hz1 hd (okPutA_eq r hc) b3 (by rw [hlen]; exact hb) (by rw [hlen]; exact hby) ?_
  intro p a' n cap p1 p2 p3 p4
  have hn : n = l2.length := Nat.eq_of_mul_eq_mul_right hsz' (by rw [← p3, hlen])
  subst hn
  refine (next (.slice a' l2.length cap)).run h _ (p :: L) hl ⟨r.1.put (Rp_ms.2 ⟨rfl, _, _, rfl⟩), r.2⟩ (.one ⟨p, ⟨a', cap, zs2, rfl, p2, ⟨b1, b2, hone h zs2 b1⟩, p1, ?_⟩, rfl⟩ q)
  rcases p4 with ⟨p5, p6⟩ | ⟨b, sp, p5, p6, p7⟩
  · left
    refine ⟨?_, p6⟩
    rw [p5] at hlen
    have : l2.length = 0 := by
      rcases Nat.eq_zero_or_pos l2.length with h | h
      · exact h
      · have := Nat.mul_pos h hsz'; simp at hlen; omega
    exact List.length_eq_zero_iff.1 this
  · exact .inr ⟨b, 0, sp, p5, p6, p7⟩
end
end Go.Tp
