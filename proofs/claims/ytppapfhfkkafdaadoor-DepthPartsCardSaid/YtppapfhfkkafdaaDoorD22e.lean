/-
  Chapter 22: depth.join of two.
-/
import Derived.Test.YtppapfhfkkafdaaDoorD22d

namespace Go.Proofs.YtppapfhfkkafdaaDoor
open Go Go.Tp
set_option linter.unusedVariables false
set_option linter.unusedSimpArgs false
set_option maxRecDepth 100000
set_option maxHeartbeats 4000000


def YT (x y : Int) : Nat → List Value → Value → GH → Prop := yl [(17, fun _ v _ => v = .int .i64 x), (23, fun _ v _ => v = .int .i64 y)]
theorem join5_does (w0 : World) (h : GH) (hq : atH h 0 0 quietL) (L : List Ent) (o : Int) (h1 : 1 ≤ o) (h2 : o ≤ 22) (x y : NR) (hx : 0 ≤ x.regs ∧ x.regs ≤ 3 ∧ 0 ≤ x.temps ∧ x.temps ≤ 1000000) (hy : 0 ≤ y.regs ∧ y.regs ≤ 3 ∧ 0 ≤ y.temps ∧ y.temps ≤ 1000000) (p : Option Addr) (m q : Nat) (b of c : Nat) (ha : atH h b of (nrc x)) (hd : atH h b (of + 4) (nrc y)) :
    Does Tryd.prog w0 26 [.agg ⟨[.int .u8 5, .int .u8 o, .int .u8 0, .int .i32 0, .int .i64 0, .slice p m q]⟩, .slice (some ⟨b, of, none⟩) 2 c] h L (Is (.agg ⟨nrc (jn 5 o 0 0 0 [x, y])⟩) h L) := by
  obtain ⟨s, r, u⟩ := x
  obtain ⟨s', r', u'⟩ := y
  simp only at hx hy
  refine Does.is (Does.of_V (cfg w0 26 Tryd.f26 132 (RIs (.agg ⟨nrc _⟩) h L) Tryd.func26) rfl rfl rfl rfl ?_); (repeat (first | refine V.stepY rfl ?_ | refine V.loadY rfl rfl rfl rfl rfl rfl ?_ | refine V.store rfl rfl rfl rfl rfl rfl rfl ?_ | refine V.condT rfl ?_ | refine V.condF rfl ?_ | refine V.skip rfl rfl ?_ | refine V.skipU rfl rfl rfl ?_ | refine V.pickT rfl rfl rfl rfl rfl ?_ | refine V.pickF rfl rfl rfl rfl rfl ?_ | refine V.step rfl ?_ | refine V.load rfl rfl rfl rfl rfl rfl ?_)); refine V.box rfl rfl rfl rfl rfl rfl fun be => ?_; refine V.alloc rfl rfl rfl rfl rfl rfl fun bx => ?_; (repeat (first | refine V.stepY rfl ?_ | refine V.loadY rfl rfl rfl rfl rfl rfl ?_ | refine V.store rfl rfl rfl rfl rfl rfl rfl ?_ | refine V.condT rfl ?_ | refine V.condF rfl ?_ | refine V.skip rfl rfl ?_ | refine V.skipU rfl rfl rfl ?_ | refine V.pickT rfl rfl rfl rfl rfl ?_ | refine V.pickF rfl rfl rfl rfl rfl ?_ | refine V.step rfl ?_ | refine V.load rfl rfl rfl rfl rfl rfl ?_))
  refine V.draw 9 [6, 7, 0, 1, 2, 3, 4, 5, 8] (fun i => if i = 8 then [6] else []) (fun _ _ _ _ => False) (by kernel_rfl) (by kernel_rfl) ?_
  refine WE.alloc rfl rfl rfl rfl rfl rfl rfl rfl fun b7 => ?_
  refine WE.alloc rfl rfl rfl rfl rfl rfl rfl rfl fun b8 => ?_
  (repeat (first | refine WE.step rfl ?_ | refine WE.load rfl rfl rfl rfl rfl rfl rfl ?_)); refine WE.index rfl rfl rfl rfl rfl rfl rfl (by decide) (by decide) ?_; refine WE.loadHA rfl rfl rfl rfl rfl rfl ha rfl rfl ?_; (repeat (first | refine WE.step rfl ?_ | refine WE.load rfl rfl rfl rfl rfl rfl rfl ?_)); refine WE.index rfl rfl rfl rfl rfl rfl rfl (by decide) (by decide) ?_; refine WE.loadHA rfl rfl rfl rfl rfl rfl hd rfl rfl ?_
  refine WE.store rfl rfl rfl rfl rfl rfl rfl rfl rfl rfl rfl ?_
  refine WE.nilC [_, _] (_ :: _ :: _ :: _ :: _) rfl rfl ?_
  (repeat (first | refine V.stepY rfl ?_ | refine V.loadY rfl rfl rfl rfl rfl rfl ?_ | refine V.store rfl rfl rfl rfl rfl rfl rfl ?_ | refine V.condT rfl ?_ | refine V.condF rfl ?_ | refine V.skip rfl rfl ?_ | refine V.skipU rfl rfl rfl ?_ | refine V.pickT rfl rfl rfl rfl rfl ?_ | refine V.pickF rfl rfl rfl rfl rfl ?_ | refine V.step rfl ?_ | refine V.load rfl rfl rfl rfl rfl rfl ?_))
  refine V.draw 26 [25, 0, 1, 2, 3, 4, 5, 6, 7, 8, 9, 10, 11, 12, 13, 14, 15, 16, 18, 19, 20, 21, 22, 17, 23, 24] (fun i => if i = 17 then [16] else if i = 23 then [22] else []) (YT (max r r') (max u u')) (by kernel_rfl) (by kernel_rfl) ?_
  refine WE.alloc rfl rfl rfl rfl rfl rfl rfl rfl fun b9 => ?_
  (repeat (first | refine WE.step rfl ?_ | refine WE.load rfl rfl rfl rfl rfl rfl rfl ?_))
  refine WE.index rfl rfl rfl rfl rfl rfl rfl (by omega) (by omega) ?_
  refine WE.loadH rfl rfl rfl rfl rfl rfl (quiet_at (o := o) hq (by omega) (by omega)) rfl ?_
  (repeat (first | refine WE.step rfl ?_ | refine WE.load rfl rfl rfl rfl rfl rfl rfl ?_))
  refine WE.lit rfl rfl rfl rfl rfl rfl rfl rfl fun c1 => ?_
  (repeat (first | refine WE.step rfl ?_ | refine WE.load rfl rfl rfl rfl rfl rfl rfl ?_))
  refine WE.lit rfl rfl rfl rfl rfl rfl rfl rfl fun c2 => ?_
  refine WE.call rfl rfl rfl rfl rfl rfl rfl (fun L => (top_does w0 _ L r r' c1 (fun i v hv => GH.add_at h c1 0 _ hv) _).mono ?_) (fun v h2' y1 y2 y3 => ?_)
  · rintro v h' L' ⟨rfl, rfl, rfl⟩; exact ⟨rfl, GH.le_refl _, rfl⟩
  have y3 : v = .int .i64 (max r r') := y3
  subst y3
  refine WE.call rfl rfl rfl rfl rfl rfl rfl (fun L => (top_does w0 _ L u u' c2 (fun i v hv => GH.add_at h2' c2 0 _ hv) _).mono ?_) (fun v h3' z1 z2 z3 => ?_)
  · rintro v h' L' ⟨rfl, rfl, rfl⟩; exact ⟨rfl, GH.le_refl _, rfl⟩
  have z3 : v = .int .i64 (max u u') := z3
  subst z3
  (repeat (first | refine WE.step rfl ?_ | refine WE.load rfl rfl rfl rfl rfl rfl rfl ?_))
  refine WE.nilC [_] (_ :: _ :: _ :: _ :: _ :: _) rfl rfl ?_
  (repeat (first | refine V.stepY rfl ?_ | refine V.loadY rfl rfl rfl rfl rfl rfl ?_ | refine V.store rfl rfl rfl rfl rfl rfl rfl ?_ | refine V.condT rfl ?_ | refine V.condF rfl ?_ | refine V.skip rfl rfl ?_ | refine V.skipU rfl rfl rfl ?_ | refine V.pickT rfl rfl rfl rfl rfl ?_ | refine V.pickF rfl rfl rfl rfl rfl ?_ | refine V.step rfl ?_ | refine V.load rfl rfl rfl rfl rfl rfl ?_))
  have hsq : (decide (o ≥ 6) : Bool) = quietB o := by unfold quietB; rw [Bool.eq_iff_iff]; simp; omega
  have hle : h.le h3' := GH.le_trans y2 z2
  clear y1 z1
  refine V.cond rfl (fun hc => ?_) (fun hc => ?_)
  · (repeat (first | refine V.stepY rfl ?_ | refine V.loadY rfl rfl rfl rfl rfl rfl ?_ | refine V.store rfl rfl rfl rfl rfl rfl rfl ?_ | refine V.condT rfl ?_ | refine V.condF rfl ?_ | refine V.skip rfl rfl ?_ | refine V.skipU rfl rfl rfl ?_ | refine V.pickT rfl rfl rfl rfl rfl ?_ | refine V.pickF rfl rfl rfl rfl rfl ?_ | refine V.step rfl ?_ | refine V.load rfl rfl rfl rfl rfl rfl ?_)); refine V.retC rfl rfl rfl rfl rfl ⟨?_, hle, (by repeat (first | exact List.Sublist.refl _ | apply List.Sublist.cons))⟩
    have hc' : ¬ (o ≠ 20 ∧ o ≠ 21 ∧ r = r') := by rintro ⟨g1, g2, g3⟩; simp [g1, g2, g3] at hc
    have hc2 : ¬ (o ≠ 20 ∧ o ≠ 21 ∧ r = 3 ∧ r' = 3) := by rintro ⟨g1, g2, g3, g4⟩; exact hc' ⟨g1, g2, by omega⟩
    refine agg_eq ?_ ?_ ?_
    · simp [jn, sureB, KE.kind, KE.oper, KE.to, KE.n, KE.v, KE.l, hsq]
    · simp only [jn]; rw [if_neg hc']
    · simp only [jn]; rw [if_neg hc2]
  · (repeat (first | refine V.stepY rfl ?_ | refine V.loadY rfl rfl rfl rfl rfl rfl ?_ | refine V.store rfl rfl rfl rfl rfl rfl rfl ?_ | refine V.condT rfl ?_ | refine V.condF rfl ?_ | refine V.skip rfl rfl ?_ | refine V.skipU rfl rfl rfl ?_ | refine V.pickT rfl rfl rfl rfl rfl ?_ | refine V.pickF rfl rfl rfl rfl rfl ?_ | refine V.step rfl ?_ | refine V.load rfl rfl rfl rfl rfl rfl ?_))
    have hc' : o ≠ 20 ∧ o ≠ 21 ∧ r = r' := by
      simp at hc
      exact ⟨hc.1.1, hc.1.2, hc.2⟩
    refine V.cond rfl (fun hd => ?_) (fun hd => ?_)
    · simp at hd
      (repeat (first | refine V.stepY rfl ?_ | refine V.loadY rfl rfl rfl rfl rfl rfl ?_ | refine V.store rfl rfl rfl rfl rfl rfl rfl ?_ | refine V.condT rfl ?_ | refine V.condF rfl ?_ | refine V.skip rfl rfl ?_ | refine V.skipU rfl rfl rfl ?_ | refine V.pickT rfl rfl rfl rfl rfl ?_ | refine V.pickF rfl rfl rfl rfl rfl ?_ | refine V.step rfl ?_ | refine V.load rfl rfl rfl rfl rfl rfl ?_)); refine V.retC rfl rfl rfl rfl rfl ⟨?_, hle, (by repeat (first | exact List.Sublist.refl _ | apply List.Sublist.cons))⟩
      have hc2 : ¬ (o ≠ 20 ∧ o ≠ 21 ∧ r = 3 ∧ r' = 3) := by rintro ⟨g1, g2, g3, g4⟩; omega
      refine agg_eq ?_ ?_ ?_
      · simp [jn, sureB, KE.kind, KE.oper, KE.to, KE.n, KE.v, KE.l, hsq]
      · simp only [jn]; rw [if_pos hc', wr64 _ (by omega)]; omega
      · simp only [jn]; rw [if_neg hc2]
    · simp at hd
      (repeat (first | refine V.stepY rfl ?_ | refine V.loadY rfl rfl rfl rfl rfl rfl ?_ | refine V.store rfl rfl rfl rfl rfl rfl rfl ?_ | refine V.condT rfl ?_ | refine V.condF rfl ?_ | refine V.skip rfl rfl ?_ | refine V.skipU rfl rfl rfl ?_ | refine V.pickT rfl rfl rfl rfl rfl ?_ | refine V.pickF rfl rfl rfl rfl rfl ?_ | refine V.step rfl ?_ | refine V.load rfl rfl rfl rfl rfl rfl ?_))
      refine V.val 103 rfl (int64_eq (wr64 (u + 1) (by omega))) ?_
      refine V.litP rfl rfl rfl rfl rfl rfl fun b2 h2'' hle2 hat2 => ?_; (repeat (first | refine V.stepY rfl ?_ | refine V.loadY rfl rfl rfl rfl rfl rfl ?_ | refine V.store rfl rfl rfl rfl rfl rfl rfl ?_ | refine V.condT rfl ?_ | refine V.condF rfl ?_ | refine V.skip rfl rfl ?_ | refine V.skipU rfl rfl rfl ?_ | refine V.pickT rfl rfl rfl rfl rfl ?_ | refine V.pickF rfl rfl rfl rfl rfl ?_ | refine V.step rfl ?_ | refine V.load rfl rfl rfl rfl rfl rfl ?_)); refine V.callIs rfl rfl rfl rfl rfl rfl (top_does w0 _ _ _ _ _ hat2 _) ?_; (repeat (first | refine V.stepY rfl ?_ | refine V.loadY rfl rfl rfl rfl rfl rfl ?_ | refine V.store rfl rfl rfl rfl rfl rfl rfl ?_ | refine V.condT rfl ?_ | refine V.condF rfl ?_ | refine V.skip rfl rfl ?_ | refine V.skipU rfl rfl rfl ?_ | refine V.pickT rfl rfl rfl rfl rfl ?_ | refine V.pickF rfl rfl rfl rfl rfl ?_ | refine V.step rfl ?_ | refine V.load rfl rfl rfl rfl rfl rfl ?_))
      refine V.retC rfl rfl rfl rfl rfl ⟨?_, GH.le_trans hle hle2, (by repeat (first | exact List.Sublist.refl _ | apply List.Sublist.cons))⟩
      have hc2 : (o ≠ 20 ∧ o ≠ 21 ∧ r = 3 ∧ r' = 3) := ⟨hc'.1, hc'.2.1, by omega, by omega⟩
      refine agg_eq ?_ ?_ ?_
      · simp [jn, sureB, KE.kind, KE.oper, KE.to, KE.n, KE.v, KE.l, hsq]
      · simp only [jn]; rw [if_pos hc']; omega
      · simp only [jn]; rw [if_pos hc2]

theorem joinA_does (w0 : World) (h : GH) (hq : atH h 0 0 quietL) (L : List Ent) (k o t n v : Int) (a : KE) (x : NR) (hf : fine ⟨k, o, t, n, v, [a]⟩ = true) (p : Option Addr) (m q : Nat) (b of c : Nat) (ha : atH h b of (nrc x)) :
    Does Tryd.prog w0 26 [.agg ⟨[.int .u8 k, .int .u8 o, .int .u8 t, .int .i32 n, .int .i64 v, .slice p m q]⟩, .slice (some ⟨b, of, none⟩) 1 c] h L (Is (.agg ⟨nrc (jn k o t n v [x])⟩) h L) := by
  rcases fine_cases hf with ⟨_, h9⟩ | ⟨_, _, _, h9⟩ | ⟨_, _, h1, h2, h3, h9⟩ | ⟨_, _, h1, h2, h3, h9⟩ | ⟨_, _, _, _, _, _, _, h9⟩ | ⟨_, _, h1, h2, h3, h9⟩ <;> simp at h9
  · obtain ⟨rfl, rfl, rfl, rfl, rfl, rfl⟩ := h9; exact join3_does w0 h L _ x p m q b of c ha
  · obtain ⟨rfl, rfl, rfl, rfl, rfl, rfl⟩ := h9; exact join4_does w0 h hq L _ h1 h2 x p m q b of c ha
  · obtain ⟨rfl, rfl, rfl, rfl, rfl, rfl⟩ := h9; exact join6_does w0 h L _ h1 h2 x p m q b of c ha
theorem joinB_does (w0 : World) (h : GH) (hq : atH h 0 0 quietL) (L : List Ent) (k o t n v : Int) (a d : KE) (x y : NR) (hx : 0 ≤ x.regs ∧ x.regs ≤ 3 ∧ 0 ≤ x.temps ∧ x.temps ≤ 1000000) (hy : 0 ≤ y.regs ∧ y.regs ≤ 3 ∧ 0 ≤ y.temps ∧ y.temps ≤ 1000000)
    (hf : fine ⟨k, o, t, n, v, [a, d]⟩ = true) (p : Option Addr) (m q : Nat) (b of c : Nat) (ha : atH h b of (nrc x)) (hd : atH h b (of + 4) (nrc y)) :
    Does Tryd.prog w0 26 [.agg ⟨[.int .u8 k, .int .u8 o, .int .u8 t, .int .i32 n, .int .i64 v, .slice p m q]⟩, .slice (some ⟨b, of, none⟩) 2 c] h L (Is (.agg ⟨nrc (jn k o t n v [x, y])⟩) h L) := by
  rcases fine_cases hf with ⟨_, h9⟩ | ⟨_, _, _, h9⟩ | ⟨_, _, h1, h2, h3, h9⟩ | ⟨_, _, h1, h2, h3, h9⟩ | ⟨_, _, _, h1, h2, _, _, h9⟩ | ⟨_, _, h1, h2, h3, h9⟩ <;> simp at h9
  obtain ⟨rfl, rfl, rfl, rfl, rfl, rfl, rfl⟩ := h9; exact join5_does w0 h hq L _ h1 h2 x y hx hy p m q b of c ha hd
theorem joinZ_does (w0 : World) (h : GH) (L : List Ent) (k o t n v : Int) (hf : fine ⟨k, o, t, n, v, []⟩ = true) (a' : Option Addr) (c1 : Nat) (a : Option Addr) (c : Nat) :
    Does Tryd.prog w0 26 [.agg ⟨[.int .u8 k, .int .u8 o, .int .u8 t, .int .i32 n, .int .i64 v, .slice a' 0 c1]⟩, .slice a 0 c] h L (Is (.agg ⟨nrc (jn k o t n v [])⟩) h L) := by
  have := join0_does w0 h L k o t n v a' c1 a c
  have hs : jn k o t n v [] = ⟨true, 1, 0⟩ := by
    rcases fine_cases hf with ⟨_, h9⟩ | ⟨_, _, _, h9⟩ | ⟨_, _, h1, h2, h3, h9⟩ | ⟨_, _, h1, h2, h3, h9⟩ | ⟨_, _, _, h1, h2, _, _, h9⟩ | ⟨_, _, h1, h2, h3, h9⟩ <;> simp at h9
    · obtain ⟨rfl, rfl, rfl, _⟩ := h9; simp [jn, sureB, KE.kind, KE.oper, KE.to, KE.n, KE.v, KE.l]
    · obtain ⟨rfl, rfl, rfl, _⟩ := h9; simp [jn, sureB, KE.kind, KE.oper, KE.to, KE.n, KE.v, KE.l]
  rw [hs]; exact this
end Go.Proofs.YtppapfhfkkafdaaDoor
