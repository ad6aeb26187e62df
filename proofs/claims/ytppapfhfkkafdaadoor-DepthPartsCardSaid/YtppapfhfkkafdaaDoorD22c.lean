/-
  Chapter 22: what an expression needs; the clear text's walks.
-/
import Derived.Test.YtppapfhfkkafdaaDoorD22b

namespace Go.Proofs.YtppapfhfkkafdaaDoor
open Go Go.Tp
set_option linter.unusedVariables false
set_option linter.unusedSimpArgs false
set_option maxRecDepth 100000
set_option maxHeartbeats 4000000


structure NR where
  safe : Bool
  regs : Int
  temps : Int

mutual
def sz : KE → Nat
  | ⟨_, _, _, _, _, l⟩ => 1 + szl l
def szl : List KE → Nat
  | [] => 0
  | e :: r => sz e + szl r
end
mutual
def ht : KE → Nat
  | ⟨_, _, _, _, _, l⟩ => 1 + htl l
def htl : List KE → Nat
  | [] => 0
  | e :: r => max (ht e) (htl r)
end
mutual
def fine : KE → Bool
  | ⟨k, o, t, n, v, l⟩ => shapeB ⟨k, o, t, n, v, l⟩ && finel l
def finel : List KE → Bool
  | [] => true
  | e :: r => fine e && finel r
end
/-- no part that must be an integer -/
def easyB (k o t : Int) : Bool := if k = 4 then (o == 25 || o == 26) else if k = 6 then t == 1 else false
def jn (k o t n v : Int) : List NR → NR
  | [] => ⟨sureB ⟨k, o, t, n, v, []⟩, 1, 0⟩
  | [a] => ⟨a.safe && sureB ⟨k, o, t, n, v, []⟩, if easyB k o t then a.regs else max a.regs 2, a.temps⟩
  | a :: b :: _ => ⟨a.safe && b.safe && sureB ⟨k, o, t, n, v, []⟩, if o ≠ 20 ∧ o ≠ 21 ∧ a.regs = b.regs then min (a.regs + 1) 3 else max a.regs b.regs,
      if o ≠ 20 ∧ o ≠ 21 ∧ a.regs = 3 ∧ b.regs = 3 then max b.temps (a.temps + 1) else max a.temps b.temps⟩
mutual
def ne : KE → NR
  | ⟨k, o, t, n, v, l⟩ => jn k o t n v (nel l)
def nel : List KE → List NR
  | [] => []
  | e :: r => ne e :: nel r
end

theorem fine_cases {e : KE} (h : fine e = true) : (∃ n, e = ⟨1, 0, 0, n, 0, []⟩) ∨ (∃ v, 0 ≤ v ∧ v ≤ 255 ∧ e = ⟨2, 0, 0, 0, v, []⟩) ∨ (∃ v a, 0 ≤ v ∧ v ≤ 255 ∧ fine a = true ∧ e = ⟨3, 0, 0, 0, v, [a]⟩) ∨
    (∃ o a, 23 ≤ o ∧ o ≤ 26 ∧ fine a = true ∧ e = ⟨4, o, 0, 0, 0, [a]⟩) ∨ (∃ o a b, 1 ≤ o ∧ o ≤ 22 ∧ fine a = true ∧ fine b = true ∧ e = ⟨5, o, 0, 0, 0, [a, b]⟩) ∨ (∃ t a, 1 ≤ t ∧ t ≤ 3 ∧ fine a = true ∧ e = ⟨6, 0, t, 0, 0, [a]⟩) := by
  obtain ⟨k, o, t, n, v, l⟩ := e
  simp only [fine, Bool.and_eq_true] at h
  obtain ⟨h1, h2⟩ := h
  simp only [shapeB, KE.kind, KE.oper, KE.to, KE.n, KE.v, KE.l] at h1
  have l0 : l.length = 0 → l = [] := fun h => List.length_eq_zero_iff.1 h
  have l1 : l.length = 1 → ∃ a, l = [a] := fun h => by
    match l, h with
    | [a], _ => exact ⟨a, rfl⟩
  have l2 : l.length = 2 → ∃ a b, l = [a, b] := fun h => by
    match l, h with
    | [a, b], _ => exact ⟨a, b, rfl⟩
  split at h1
  · subst_vars; simp at h1; obtain ⟨⟨⟨rfl, rfl⟩, rfl⟩, h⟩ := h1; rw [h]; exact .inl ⟨n, rfl⟩
  split at h1
  · subst_vars; simp at h1; obtain ⟨⟨⟨⟨⟨rfl, rfl⟩, rfl⟩, h3⟩, h4⟩, h⟩ := h1; rw [h]; exact .inr (.inl ⟨v, h3, h4, rfl⟩)
  split at h1
  · subst_vars; simp at h1; obtain ⟨⟨⟨⟨⟨rfl, rfl⟩, rfl⟩, h3⟩, h4⟩, h⟩ := h1; obtain ⟨a, rfl⟩ := l1 h; simp [finel] at h2; exact .inr (.inr (.inl ⟨v, a, h3, h4, h2, rfl⟩))
  split at h1
  · subst_vars; simp at h1; obtain ⟨⟨⟨⟨⟨h3, h4⟩, rfl⟩, rfl⟩, rfl⟩, h⟩ := h1; obtain ⟨a, rfl⟩ := l1 h; simp [finel] at h2; exact .inr (.inr (.inr (.inl ⟨o, a, h3, h4, h2, rfl⟩)))
  split at h1
  · subst_vars; simp at h1; obtain ⟨⟨⟨⟨⟨h3, h4⟩, rfl⟩, rfl⟩, rfl⟩, h⟩ := h1; obtain ⟨a, b, rfl⟩ := l2 h; simp [finel] at h2; exact .inr (.inr (.inr (.inr (.inl ⟨o, a, b, h3, h4, h2.1, h2.2, rfl⟩))))
  split at h1
  · subst_vars; simp at h1; obtain ⟨⟨⟨⟨⟨rfl, h3⟩, h4⟩, rfl⟩, rfl⟩, h⟩ := h1; obtain ⟨a, rfl⟩ := l1 h; simp [finel] at h2; exact .inr (.inr (.inr (.inr (.inr ⟨t, a, h3, h4, h2, rfl⟩))))
  · cases h1

theorem sz_pos (e : KE) : 1 ≤ sz e := by obtain ⟨k, o, t, n, v, l⟩ := e; simp only [sz]; omega
theorem ht_pos (e : KE) : 1 ≤ ht e := by obtain ⟨k, o, t, n, v, l⟩ := e; simp only [ht]; omega
theorem ne_bounds : ∀ (N : Nat) (e : KE), sz e ≤ N → fine e = true → 1 ≤ (ne e).regs ∧ (ne e).regs ≤ 3 ∧ 0 ≤ (ne e).temps ∧ (ne e).temps ≤ sz e
  | 0, e, h, _ => by have := sz_pos e; omega
  | N + 1, e, h, hf => by
    rcases fine_cases hf with ⟨n, rfl⟩ | ⟨v, h1, h2, rfl⟩ | ⟨v, a, h1, h2, h3, rfl⟩ | ⟨o, a, h1, h2, h3, rfl⟩ | ⟨o, a, b, h1, h2, h3, h4, rfl⟩ | ⟨t, a, h1, h2, h3, rfl⟩
    · simp [ne, nel, jn]
    · simp [ne, nel, jn]
    · simp only [sz, szl] at h
      have := ne_bounds N a (by omega) h3
      simp [ne, nel, jn, sz, szl, easyB]; omega
    · simp only [sz, szl] at h
      have := ne_bounds N a (by omega) h3
      simp only [ne, nel, jn, sz, szl]; refine ⟨?_, ?_, ?_, ?_⟩ <;> (try split) <;> omega
    · simp only [sz, szl] at h
      have := ne_bounds N a (by omega) h3
      have := ne_bounds N b (by omega) h4
      simp only [ne, nel, jn, sz, szl]; refine ⟨?_, ?_, ?_, ?_⟩ <;> (try split) <;> omega
    · simp only [sz, szl] at h
      have := ne_bounds N a (by omega) h3
      simp only [ne, nel, jn, sz, szl]; refine ⟨?_, ?_, ?_, ?_⟩ <;> (try split) <;> omega

/-- one part -/
theorem RK_p1 {h : GH} {k o t n v : Int} {a : KE} {cs : List Value} (hr : RK h ⟨k, o, t, n, v, [a]⟩ cs) :
    ∃ b off cap ca, cs = [.int .u8 k, .int .u8 o, .int .u8 t, .int .i32 n, .int .i64 v, .slice (some ⟨b, off, none⟩) 1 cap] ∧ atH h b off ca ∧ RK h a ca ∧ ca.length = 6 := by
  simp only [RK] at hr
  obtain ⟨_, a', cap, rfl, hcap, hl⟩ := hr
  obtain ⟨b, off, rfl, hq⟩ := hl (by simp)
  simp only [RKl] at hq
  obtain ⟨⟨ca, h1, h2⟩, _⟩ := hq
  exact ⟨b, off, cap, ca, rfl, h1, h2, h2.len⟩
theorem RK_p2 {h : GH} {k o t n v : Int} {a c : KE} {cs : List Value} (hr : RK h ⟨k, o, t, n, v, [a, c]⟩ cs) :
    ∃ b off cap ca cc, cs = [.int .u8 k, .int .u8 o, .int .u8 t, .int .i32 n, .int .i64 v, .slice (some ⟨b, off, none⟩) 2 cap] ∧ atH h b off ca ∧ RK h a ca ∧ ca.length = 6 ∧ atH h b (off + 6) cc ∧ RK h c cc ∧ cc.length = 6 := by
  simp only [RK] at hr
  obtain ⟨_, a', cap, rfl, hcap, hl⟩ := hr
  obtain ⟨b, off, rfl, hq⟩ := hl (by simp)
  simp only [RKl] at hq
  obtain ⟨⟨ca, h1, h2⟩, ⟨cc, h3, h4⟩, _⟩ := hq
  exact ⟨b, off, cap, ca, cc, rfl, h1, h2, h2.len, h3, h4, h4.len⟩
theorem RK_p0 {h : GH} {k o t n v : Int} {cs : List Value} (hr : RK h ⟨k, o, t, n, v, []⟩ cs) :
    ∃ a cap, cs = [.int .u8 k, .int .u8 o, .int .u8 t, .int .i32 n, .int .i64 v, .slice a 0 cap] := by
  simp only [RK] at hr
  obtain ⟨_, a', cap, rfl, hcap, hl⟩ := hr
  exact ⟨a', cap, rfl⟩

theorem registers_does (w0 : World) (h : GH) : ∀ (N : Nat) (e : KE) (cs : List Value) (L : List Ent), sz e ≤ N → fine e = true → RK h e cs → Does Tryd.prog w0 19 [.agg ⟨cs⟩] h L (Is (.int .i64 (ne e).regs) h L)
  | 0, e, cs, L, hn, hf, hr => by have := sz_pos e; omega
  | N + 1, e, cs, L, hn, hf, hr => by
    rcases fine_cases hf with ⟨n, rfl⟩ | ⟨v, h1, h2, rfl⟩ | ⟨v, a, h1, h2, h3, rfl⟩ | ⟨o, a, h1, h2, h3, rfl⟩ | ⟨o, a, b, h1, h2, h3, h4, rfl⟩ | ⟨t, a, h1, h2, h3, rfl⟩
    · obtain ⟨a', cap, rfl⟩ := RK_p0 hr
      refine Does.is (Does.of_V (cfg w0 19 Tryd.f19 70 (RIs (.int .i64 _) h L) Tryd.func19) rfl rfl rfl rfl ?_); (repeat (first | refine V.step rfl ?_ | refine V.load rfl rfl rfl rfl rfl rfl ?_ | refine V.store rfl rfl rfl rfl rfl rfl rfl ?_ | refine V.condT rfl ?_ | refine V.condF rfl ?_)); refine V.box rfl rfl rfl rfl rfl rfl fun be => ?_; (repeat (first | refine V.step rfl ?_ | refine V.load rfl rfl rfl rfl rfl rfl ?_ | refine V.store rfl rfl rfl rfl rfl rfl rfl ?_ | refine V.condT rfl ?_ | refine V.condF rfl ?_)); refine V.ret1 rfl rfl rfl ⟨?_, GH.le_refl _, (by repeat (first | exact List.Sublist.refl _ | apply List.Sublist.cons))⟩; rfl
    · obtain ⟨a', cap, rfl⟩ := RK_p0 hr
      refine Does.is (Does.of_V (cfg w0 19 Tryd.f19 70 (RIs (.int .i64 _) h L) Tryd.func19) rfl rfl rfl rfl ?_); (repeat (first | refine V.step rfl ?_ | refine V.load rfl rfl rfl rfl rfl rfl ?_ | refine V.store rfl rfl rfl rfl rfl rfl rfl ?_ | refine V.condT rfl ?_ | refine V.condF rfl ?_)); refine V.box rfl rfl rfl rfl rfl rfl fun be => ?_; (repeat (first | refine V.step rfl ?_ | refine V.load rfl rfl rfl rfl rfl rfl ?_ | refine V.store rfl rfl rfl rfl rfl rfl rfl ?_ | refine V.condT rfl ?_ | refine V.condF rfl ?_)); refine V.ret1 rfl rfl rfl ⟨?_, GH.le_refl _, (by repeat (first | exact List.Sublist.refl _ | apply List.Sublist.cons))⟩; rfl
    · obtain ⟨b, off, cap, ca, rfl, g1, g2, g3⟩ := RK_p1 hr
      simp only [sz, szl] at hn
      refine Does.is (Does.of_V (cfg w0 19 Tryd.f19 70 (RIs (.int .i64 _) h L) Tryd.func19) rfl rfl rfl rfl ?_); (repeat (first | refine V.step rfl ?_ | refine V.load rfl rfl rfl rfl rfl rfl ?_ | refine V.store rfl rfl rfl rfl rfl rfl rfl ?_ | refine V.condT rfl ?_ | refine V.condF rfl ?_)); refine V.box rfl rfl rfl rfl rfl rfl fun be => ?_; (repeat (first | refine V.step rfl ?_ | refine V.load rfl rfl rfl rfl rfl rfl ?_ | refine V.store rfl rfl rfl rfl rfl rfl rfl ?_ | refine V.condT rfl ?_ | refine V.condF rfl ?_)); refine V.index rfl rfl rfl rfl rfl rfl (by decide) (by decide) ?_; refine V.loadHA rfl rfl rfl rfl rfl g1 g3 rfl ?_; refine V.callIs rfl rfl rfl rfl rfl rfl (registers_does w0 h N a ca _ (by omega) h3 g2) ?_; (repeat (first | refine V.step rfl ?_ | refine V.load rfl rfl rfl rfl rfl rfl ?_ | refine V.store rfl rfl rfl rfl rfl rfl rfl ?_ | refine V.condT rfl ?_ | refine V.condF rfl ?_))
      refine V.ret1 rfl rfl rfl ⟨?_, GH.le_refl _, (by repeat (first | exact List.Sublist.refl _ | apply List.Sublist.cons))⟩
      refine int64_eq ?_
      simp [ne, nel, jn, easyB]; split <;> omega
    · obtain ⟨b, off, cap, ca, rfl, g1, g2, g3⟩ := RK_p1 hr
      simp only [sz, szl] at hn
      refine Does.is (Does.of_V (cfg w0 19 Tryd.f19 70 (RIs (.int .i64 _) h L) Tryd.func19) rfl rfl rfl rfl ?_); (repeat (first | refine V.step rfl ?_ | refine V.load rfl rfl rfl rfl rfl rfl ?_ | refine V.store rfl rfl rfl rfl rfl rfl rfl ?_ | refine V.condT rfl ?_ | refine V.condF rfl ?_)); refine V.box rfl rfl rfl rfl rfl rfl fun be => ?_; (repeat (first | refine V.step rfl ?_ | refine V.load rfl rfl rfl rfl rfl rfl ?_ | refine V.store rfl rfl rfl rfl rfl rfl rfl ?_ | refine V.condT rfl ?_ | refine V.condF rfl ?_)); refine V.index rfl rfl rfl rfl rfl rfl (by decide) (by decide) ?_; refine V.loadHA rfl rfl rfl rfl rfl g1 g3 rfl ?_; refine V.callIs rfl rfl rfl rfl rfl rfl (registers_does w0 h N a ca _ (by omega) h3 g2) ?_; (repeat (first | refine V.step rfl ?_ | refine V.load rfl rfl rfl rfl rfl rfl ?_ | refine V.store rfl rfl rfl rfl rfl rfl rfl ?_ | refine V.condT rfl ?_ | refine V.condF rfl ?_))
      refine V.cond rfl (fun hc => ?_) (fun hc => ?_)
      · (repeat (first | refine V.step rfl ?_ | refine V.load rfl rfl rfl rfl rfl rfl ?_ | refine V.store rfl rfl rfl rfl rfl rfl rfl ?_ | refine V.condT rfl ?_ | refine V.condF rfl ?_)); refine V.ret1 rfl rfl rfl ⟨?_, GH.le_refl _, (by repeat (first | exact List.Sublist.refl _ | apply List.Sublist.cons))⟩; ((try simp only [wr64 4 (by decide), wr64 5 (by decide), wr64 6 (by decide)] at hc); (try simp at hc)); simp [ne, nel, jn, easyB, hc]
      · (repeat (first | refine V.step rfl ?_ | refine V.load rfl rfl rfl rfl rfl rfl ?_ | refine V.store rfl rfl rfl rfl rfl rfl rfl ?_ | refine V.condT rfl ?_ | refine V.condF rfl ?_)); refine V.ret1 rfl rfl rfl ⟨?_, GH.le_refl _, (by repeat (first | exact List.Sublist.refl _ | apply List.Sublist.cons))⟩; ((try simp only [wr64 4 (by decide), wr64 5 (by decide), wr64 6 (by decide)] at hc); (try simp at hc)); refine int64_eq ?_; simp [ne, nel, jn, easyB, hc]; split <;> omega
    · obtain ⟨b', off, cap, ca, cb, rfl, g1, g2, g3, g4, g5, g6⟩ := RK_p2 hr
      simp only [sz, szl] at hn
      have ba := ne_bounds N a (by omega) h3
      have bb := ne_bounds N b (by omega) h4
      refine Does.is (Does.of_V (cfg w0 19 Tryd.f19 70 (RIs (.int .i64 _) h L) Tryd.func19) rfl rfl rfl rfl ?_); (repeat (first | refine V.step rfl ?_ | refine V.load rfl rfl rfl rfl rfl rfl ?_ | refine V.store rfl rfl rfl rfl rfl rfl rfl ?_ | refine V.condT rfl ?_ | refine V.condF rfl ?_)); refine V.box rfl rfl rfl rfl rfl rfl fun be => ?_; (repeat (first | refine V.step rfl ?_ | refine V.load rfl rfl rfl rfl rfl rfl ?_ | refine V.store rfl rfl rfl rfl rfl rfl rfl ?_ | refine V.condT rfl ?_ | refine V.condF rfl ?_)); refine V.index rfl rfl rfl rfl rfl rfl (by decide) (by decide) ?_; refine V.loadHA rfl rfl rfl rfl rfl g1 g3 rfl ?_; refine V.callIs rfl rfl rfl rfl rfl rfl (registers_does w0 h N a ca _ (by omega) h3 g2) ?_; (repeat (first | refine V.step rfl ?_ | refine V.load rfl rfl rfl rfl rfl rfl ?_ | refine V.store rfl rfl rfl rfl rfl rfl rfl ?_ | refine V.condT rfl ?_ | refine V.condF rfl ?_)); refine V.index rfl rfl rfl rfl rfl rfl (by decide) (by decide) ?_; refine V.loadHA rfl rfl rfl rfl rfl g4 g6 rfl ?_; refine V.callIs rfl rfl rfl rfl rfl rfl (registers_does w0 h N b cb _ (by omega) h4 g5) ?_; (repeat (first | refine V.step rfl ?_ | refine V.load rfl rfl rfl rfl rfl rfl ?_ | refine V.store rfl rfl rfl rfl rfl rfl rfl ?_ | refine V.condT rfl ?_ | refine V.condF rfl ?_))
      refine V.cond rfl (fun hc => ?_) (fun hc => ?_)
      · (repeat (first | refine V.step rfl ?_ | refine V.load rfl rfl rfl rfl rfl rfl ?_ | refine V.store rfl rfl rfl rfl rfl rfl rfl ?_ | refine V.condT rfl ?_ | refine V.condF rfl ?_)); refine V.ret1 rfl rfl rfl ⟨?_, GH.le_refl _, (by repeat (first | exact List.Sublist.refl _ | apply List.Sublist.cons))⟩; ((try simp only [wr64 4 (by decide), wr64 5 (by decide), wr64 6 (by decide)] at hc); (try simp at hc)); refine int64_eq ?_; rw [wr64 _ (by omega)]; simp only [ne, nel, jn]; have hq : o ≠ 20 ∧ o ≠ 21 ∧ (ne a).regs = (ne b).regs := (by omega); rw [if_pos hq]; simp only [Int.min_def]; (repeat' split) <;> omega
      · (repeat (first | refine V.step rfl ?_ | refine V.load rfl rfl rfl rfl rfl rfl ?_ | refine V.store rfl rfl rfl rfl rfl rfl rfl ?_ | refine V.condT rfl ?_ | refine V.condF rfl ?_)); refine V.ret1 rfl rfl rfl ⟨?_, GH.le_refl _, (by repeat (first | exact List.Sublist.refl _ | apply List.Sublist.cons))⟩; ((try simp only [wr64 4 (by decide), wr64 5 (by decide), wr64 6 (by decide)] at hc); (try simp at hc)); refine int64_eq ?_; simp only [ne, nel, jn]; have hq : ¬ (o ≠ 20 ∧ o ≠ 21 ∧ (ne a).regs = (ne b).regs) := (by omega); rw [if_neg hq]; simp only [Int.max_def]; (repeat' split) <;> omega
    · obtain ⟨b, off, cap, ca, rfl, g1, g2, g3⟩ := RK_p1 hr
      simp only [sz, szl] at hn
      refine Does.is (Does.of_V (cfg w0 19 Tryd.f19 70 (RIs (.int .i64 _) h L) Tryd.func19) rfl rfl rfl rfl ?_); (repeat (first | refine V.step rfl ?_ | refine V.load rfl rfl rfl rfl rfl rfl ?_ | refine V.store rfl rfl rfl rfl rfl rfl rfl ?_ | refine V.condT rfl ?_ | refine V.condF rfl ?_)); refine V.box rfl rfl rfl rfl rfl rfl fun be => ?_; (repeat (first | refine V.step rfl ?_ | refine V.load rfl rfl rfl rfl rfl rfl ?_ | refine V.store rfl rfl rfl rfl rfl rfl rfl ?_ | refine V.condT rfl ?_ | refine V.condF rfl ?_)); refine V.index rfl rfl rfl rfl rfl rfl (by decide) (by decide) ?_; refine V.loadHA rfl rfl rfl rfl rfl g1 g3 rfl ?_; refine V.callIs rfl rfl rfl rfl rfl rfl (registers_does w0 h N a ca _ (by omega) h3 g2) ?_; (repeat (first | refine V.step rfl ?_ | refine V.load rfl rfl rfl rfl rfl rfl ?_ | refine V.store rfl rfl rfl rfl rfl rfl rfl ?_ | refine V.condT rfl ?_ | refine V.condF rfl ?_))
      refine V.cond rfl (fun hc => ?_) (fun hc => ?_)
      · (repeat (first | refine V.step rfl ?_ | refine V.load rfl rfl rfl rfl rfl rfl ?_ | refine V.store rfl rfl rfl rfl rfl rfl rfl ?_ | refine V.condT rfl ?_ | refine V.condF rfl ?_)); refine V.ret1 rfl rfl rfl ⟨?_, GH.le_refl _, (by repeat (first | exact List.Sublist.refl _ | apply List.Sublist.cons))⟩; ((try simp only [wr64 4 (by decide), wr64 5 (by decide), wr64 6 (by decide)] at hc); (try simp at hc)); simp [ne, nel, jn, easyB, hc]
      · (repeat (first | refine V.step rfl ?_ | refine V.load rfl rfl rfl rfl rfl rfl ?_ | refine V.store rfl rfl rfl rfl rfl rfl rfl ?_ | refine V.condT rfl ?_ | refine V.condF rfl ?_)); refine V.ret1 rfl rfl rfl ⟨?_, GH.le_refl _, (by repeat (first | exact List.Sublist.refl _ | apply List.Sublist.cons))⟩; ((try simp only [wr64 4 (by decide), wr64 5 (by decide), wr64 6 (by decide)] at hc); (try simp at hc)); refine int64_eq ?_; simp [ne, nel, jn, easyB, hc]; split <;> omega

def spillB (o : Int) (a b : NR) : Bool := decide (o ≠ 20 ∧ o ≠ 21 ∧ a.regs = 3 ∧ b.regs = 3)
theorem spills_does (w0 : World) (h : GH) (o : Int) (a b : KE) (cs : List Value) (L : List Ent) (fa : fine a = true) (fb : fine b = true) (hr : RK h ⟨5, o, 0, 0, 0, [a, b]⟩ cs) : Does Tryd.prog w0 27 [.agg ⟨cs⟩] h L (Is (.bool (spillB o (ne a) (ne b))) h L) := by
  obtain ⟨b', off, cap, ca, cb, rfl, g1, g2, g3, g4, g5, g6⟩ := RK_p2 hr
  refine Does.is (Does.of_V (cfg w0 27 Tryd.f27 33 (RIs (.bool (spillB o (ne a) (ne b))) h L) Tryd.func27) rfl rfl rfl rfl ?_)
  (repeat (first | refine V.step rfl ?_ | refine V.load rfl rfl rfl rfl rfl rfl ?_ | refine V.store rfl rfl rfl rfl rfl rfl rfl ?_ | refine V.condT rfl ?_ | refine V.condF rfl ?_)); refine V.box rfl rfl rfl rfl rfl rfl fun be => ?_; (repeat (first | refine V.step rfl ?_ | refine V.load rfl rfl rfl rfl rfl rfl ?_ | refine V.store rfl rfl rfl rfl rfl rfl rfl ?_ | refine V.condT rfl ?_ | refine V.condF rfl ?_))
  refine V.split 17 rfl (fun hc => ?_) (fun hc => ?_)
  · (repeat (first | refine V.step rfl ?_ | refine V.load rfl rfl rfl rfl rfl rfl ?_ | refine V.store rfl rfl rfl rfl rfl rfl rfl ?_ | refine V.condT rfl ?_ | refine V.condF rfl ?_)); refine V.index rfl rfl rfl rfl rfl rfl (by decide) (by decide) ?_; refine V.loadHA rfl rfl rfl rfl rfl g1 g3 rfl ?_; refine V.callIs rfl rfl rfl rfl rfl rfl (registers_does w0 h _ a ca _ (Nat.le_refl _) fa g2) ?_; (repeat (first | refine V.step rfl ?_ | refine V.load rfl rfl rfl rfl rfl rfl ?_ | refine V.store rfl rfl rfl rfl rfl rfl rfl ?_ | refine V.condT rfl ?_ | refine V.condF rfl ?_))
    refine V.split 25 rfl (fun hd => ?_) (fun hd => ?_)
    · (repeat (first | refine V.step rfl ?_ | refine V.load rfl rfl rfl rfl rfl rfl ?_ | refine V.store rfl rfl rfl rfl rfl rfl rfl ?_ | refine V.condT rfl ?_ | refine V.condF rfl ?_)); refine V.index rfl rfl rfl rfl rfl rfl (by decide) (by decide) ?_; refine V.loadHA rfl rfl rfl rfl rfl g4 g6 rfl ?_; refine V.callIs rfl rfl rfl rfl rfl rfl (registers_does w0 h _ b cb _ (Nat.le_refl _) fb g5) ?_; (repeat (first | refine V.step rfl ?_ | refine V.load rfl rfl rfl rfl rfl rfl ?_ | refine V.store rfl rfl rfl rfl rfl rfl rfl ?_ | refine V.condT rfl ?_ | refine V.condF rfl ?_))
      refine V.ret1 rfl rfl rfl ⟨?_, GH.le_refl _, (by repeat (first | exact List.Sublist.refl _ | apply List.Sublist.cons))⟩; ((try simp only [wr64 4 (by decide), wr64 5 (by decide), wr64 6 (by decide)] at hc); (try simp at hc)); refine bool_eq ?_; simp at hd; simp [spillB, hc, hd]
    · (repeat (first | refine V.step rfl ?_ | refine V.load rfl rfl rfl rfl rfl rfl ?_ | refine V.store rfl rfl rfl rfl rfl rfl rfl ?_ | refine V.condT rfl ?_ | refine V.condF rfl ?_ | refine V.skip rfl rfl ?_ | refine V.pickT rfl rfl rfl rfl rfl ?_ | refine V.pickF rfl rfl rfl rfl rfl ?_)); refine V.ret1 rfl rfl rfl ⟨?_, GH.le_refl _, (by repeat (first | exact List.Sublist.refl _ | apply List.Sublist.cons))⟩; ((try simp only [wr64 4 (by decide), wr64 5 (by decide), wr64 6 (by decide)] at hc); (try simp at hc)); refine bool_eq ?_; simp at hd; simp [spillB, hc, hd]
  · (repeat (first | refine V.step rfl ?_ | refine V.load rfl rfl rfl rfl rfl rfl ?_ | refine V.store rfl rfl rfl rfl rfl rfl rfl ?_ | refine V.condT rfl ?_ | refine V.condF rfl ?_ | refine V.skip rfl rfl ?_ | refine V.pickT rfl rfl rfl rfl rfl ?_ | refine V.pickF rfl rfl rfl rfl rfl ?_)); refine V.ret1 rfl rfl rfl ⟨?_, GH.le_refl _, (by repeat (first | exact List.Sublist.refl _ | apply List.Sublist.cons))⟩; ((try simp only [wr64 4 (by decide), wr64 5 (by decide), wr64 6 (by decide)] at hc); (try simp at hc)); refine bool_eq ?_; simp [spillB]; omega

theorem temps_does (w0 : World) (h : GH) : ∀ (N : Nat) (e : KE) (cs : List Value) (L : List Ent), sz e ≤ N → N ≤ 4611686018427387904 → fine e = true → RK h e cs → Does Tryd.prog w0 20 [.agg ⟨cs⟩] h L (Is (.int .i64 (ne e).temps) h L)
  | 0, e, cs, L, hn, _, hf, hr => by have := sz_pos e; omega
  | N + 1, e, cs, L, hn, hN, hf, hr => by
    rcases fine_cases hf with ⟨n, rfl⟩ | ⟨v, h1, h2, rfl⟩ | ⟨v, a, h1, h2, h3, rfl⟩ | ⟨o, a, h1, h2, h3, rfl⟩ | ⟨o, a, b, h1, h2, h3, h4, rfl⟩ | ⟨t, a, h1, h2, h3, rfl⟩
    · obtain ⟨a', cap, rfl⟩ := RK_p0 hr
      refine Does.is (Does.of_V (cfg w0 20 Tryd.f20 41 (RIs (.int .i64 _) h L) Tryd.func20) rfl rfl rfl rfl ?_); (repeat (first | refine V.step rfl ?_ | refine V.load rfl rfl rfl rfl rfl rfl ?_ | refine V.store rfl rfl rfl rfl rfl rfl rfl ?_ | refine V.condT rfl ?_ | refine V.condF rfl ?_)); refine V.box rfl rfl rfl rfl rfl rfl fun be => ?_; (repeat (first | refine V.step rfl ?_ | refine V.load rfl rfl rfl rfl rfl rfl ?_ | refine V.store rfl rfl rfl rfl rfl rfl rfl ?_ | refine V.condT rfl ?_ | refine V.condF rfl ?_)); refine V.ret1 rfl rfl rfl ⟨?_, GH.le_refl _, (by repeat (first | exact List.Sublist.refl _ | apply List.Sublist.cons))⟩; rfl
    · obtain ⟨a', cap, rfl⟩ := RK_p0 hr
      refine Does.is (Does.of_V (cfg w0 20 Tryd.f20 41 (RIs (.int .i64 _) h L) Tryd.func20) rfl rfl rfl rfl ?_); (repeat (first | refine V.step rfl ?_ | refine V.load rfl rfl rfl rfl rfl rfl ?_ | refine V.store rfl rfl rfl rfl rfl rfl rfl ?_ | refine V.condT rfl ?_ | refine V.condF rfl ?_)); refine V.box rfl rfl rfl rfl rfl rfl fun be => ?_; (repeat (first | refine V.step rfl ?_ | refine V.load rfl rfl rfl rfl rfl rfl ?_ | refine V.store rfl rfl rfl rfl rfl rfl rfl ?_ | refine V.condT rfl ?_ | refine V.condF rfl ?_)); refine V.ret1 rfl rfl rfl ⟨?_, GH.le_refl _, (by repeat (first | exact List.Sublist.refl _ | apply List.Sublist.cons))⟩; rfl
    · obtain ⟨b, off, cap, ca, rfl, g1, g2, g3⟩ := RK_p1 hr
      simp only [sz, szl] at hn
      refine Does.is (Does.of_V (cfg w0 20 Tryd.f20 41 (RIs (.int .i64 _) h L) Tryd.func20) rfl rfl rfl rfl ?_); (repeat (first | refine V.step rfl ?_ | refine V.load rfl rfl rfl rfl rfl rfl ?_ | refine V.store rfl rfl rfl rfl rfl rfl rfl ?_ | refine V.condT rfl ?_ | refine V.condF rfl ?_)); refine V.box rfl rfl rfl rfl rfl rfl fun be => ?_; (repeat (first | refine V.step rfl ?_ | refine V.load rfl rfl rfl rfl rfl rfl ?_ | refine V.store rfl rfl rfl rfl rfl rfl rfl ?_ | refine V.condT rfl ?_ | refine V.condF rfl ?_)); refine V.index rfl rfl rfl rfl rfl rfl (by decide) (by decide) ?_; refine V.loadHA rfl rfl rfl rfl rfl g1 g3 rfl ?_; refine V.callIs rfl rfl rfl rfl rfl rfl (temps_does w0 h N a ca _ (by omega) (by omega) h3 g2) ?_; (repeat (first | refine V.step rfl ?_ | refine V.load rfl rfl rfl rfl rfl rfl ?_ | refine V.store rfl rfl rfl rfl rfl rfl rfl ?_ | refine V.condT rfl ?_ | refine V.condF rfl ?_)); refine V.ret1 rfl rfl rfl ⟨?_, GH.le_refl _, (by repeat (first | exact List.Sublist.refl _ | apply List.Sublist.cons))⟩; rfl
    · obtain ⟨b, off, cap, ca, rfl, g1, g2, g3⟩ := RK_p1 hr
      simp only [sz, szl] at hn
      refine Does.is (Does.of_V (cfg w0 20 Tryd.f20 41 (RIs (.int .i64 _) h L) Tryd.func20) rfl rfl rfl rfl ?_); (repeat (first | refine V.step rfl ?_ | refine V.load rfl rfl rfl rfl rfl rfl ?_ | refine V.store rfl rfl rfl rfl rfl rfl rfl ?_ | refine V.condT rfl ?_ | refine V.condF rfl ?_)); refine V.box rfl rfl rfl rfl rfl rfl fun be => ?_; (repeat (first | refine V.step rfl ?_ | refine V.load rfl rfl rfl rfl rfl rfl ?_ | refine V.store rfl rfl rfl rfl rfl rfl rfl ?_ | refine V.condT rfl ?_ | refine V.condF rfl ?_)); refine V.index rfl rfl rfl rfl rfl rfl (by decide) (by decide) ?_; refine V.loadHA rfl rfl rfl rfl rfl g1 g3 rfl ?_; refine V.callIs rfl rfl rfl rfl rfl rfl (temps_does w0 h N a ca _ (by omega) (by omega) h3 g2) ?_; (repeat (first | refine V.step rfl ?_ | refine V.load rfl rfl rfl rfl rfl rfl ?_ | refine V.store rfl rfl rfl rfl rfl rfl rfl ?_ | refine V.condT rfl ?_ | refine V.condF rfl ?_)); refine V.ret1 rfl rfl rfl ⟨?_, GH.le_refl _, (by repeat (first | exact List.Sublist.refl _ | apply List.Sublist.cons))⟩; rfl
    · have hr' := hr
      obtain ⟨b', off, cap, ca, cb, rfl, g1, g2, g3, g4, g5, g6⟩ := RK_p2 hr
      simp only [sz, szl] at hn
      have ba := ne_bounds N a (by omega) h3
      have bb := ne_bounds N b (by omega) h4
      refine Does.is (Does.of_V (cfg w0 20 Tryd.f20 41 (RIs (.int .i64 _) h L) Tryd.func20) rfl rfl rfl rfl ?_); (repeat (first | refine V.step rfl ?_ | refine V.load rfl rfl rfl rfl rfl rfl ?_ | refine V.store rfl rfl rfl rfl rfl rfl rfl ?_ | refine V.condT rfl ?_ | refine V.condF rfl ?_)); refine V.box rfl rfl rfl rfl rfl rfl fun be => ?_; (repeat (first | refine V.step rfl ?_ | refine V.load rfl rfl rfl rfl rfl rfl ?_ | refine V.store rfl rfl rfl rfl rfl rfl rfl ?_ | refine V.condT rfl ?_ | refine V.condF rfl ?_)); refine V.callIs rfl rfl rfl rfl rfl rfl (spills_does w0 h o a b _ _ h3 h4 hr') ?_; (repeat (first | refine V.step rfl ?_ | refine V.load rfl rfl rfl rfl rfl rfl ?_ | refine V.store rfl rfl rfl rfl rfl rfl rfl ?_ | refine V.condT rfl ?_ | refine V.condF rfl ?_))
      refine V.cond rfl (fun hc => ?_) (fun hc => ?_)
      · (repeat (first | refine V.step rfl ?_ | refine V.load rfl rfl rfl rfl rfl rfl ?_ | refine V.store rfl rfl rfl rfl rfl rfl rfl ?_ | refine V.condT rfl ?_ | refine V.condF rfl ?_)); refine V.draw 10 [0, 1, 2, 3, 5, 6, 7, 8, 4, 9] noPubs (yl [(4, eqY (.int .i64 (ne b).temps) h), (9, eqY (.int .i64 (ne a).temps) h)]) (by kernel_rfl) (by kernel_rfl) ?_
        (repeat (first | refine WE.step rfl ?_ | refine WE.load rfl rfl rfl rfl rfl rfl rfl ?_)); refine WE.index rfl rfl rfl rfl rfl rfl rfl (by decide) (by decide) ?_; refine WE.loadHA rfl rfl rfl rfl rfl rfl g4 g6 rfl ?_; (repeat (first | refine WE.step rfl ?_ | refine WE.load rfl rfl rfl rfl rfl rfl rfl ?_)); refine WE.index rfl rfl rfl rfl rfl rfl rfl (by decide) (by decide) ?_; refine WE.loadHA rfl rfl rfl rfl rfl rfl g1 g3 rfl ?_; (repeat (first | refine WE.step rfl ?_ | refine WE.load rfl rfl rfl rfl rfl rfl rfl ?_)); refine WE.callIs rfl rfl rfl rfl rfl rfl rfl rfl rfl (fun L => temps_does w0 h N b cb L (by omega) (by omega) h4 g5) ?_; refine WE.callIs rfl rfl rfl rfl rfl rfl rfl rfl rfl (fun L => temps_does w0 h N a ca L (by omega) (by omega) h3 g2) ?_
        refine WE.nil (l := []) rfl ?_
        (repeat (first | refine V.step rfl ?_ | refine V.load rfl rfl rfl rfl rfl rfl ?_ | refine V.store rfl rfl rfl rfl rfl rfl rfl ?_ | refine V.condT rfl ?_ | refine V.condF rfl ?_)); refine V.ret1 rfl rfl rfl ⟨?_, GH.le_refl _, (by repeat (first | exact List.Sublist.refl _ | apply List.Sublist.cons))⟩
        simp [spillB] at hc
        refine int64_eq ?_; rw [wr64 _ (by omega)]; simp only [ne, nel, jn]; rw [if_pos hc]; simp only [Int.max_def]; (repeat' split) <;> omega
      · (repeat (first | refine V.step rfl ?_ | refine V.load rfl rfl rfl rfl rfl rfl ?_ | refine V.store rfl rfl rfl rfl rfl rfl rfl ?_ | refine V.condT rfl ?_ | refine V.condF rfl ?_)); refine V.draw 10 [0, 1, 2, 3, 5, 6, 7, 8, 4, 9] noPubs (yl [(4, eqY (.int .i64 (ne a).temps) h), (9, eqY (.int .i64 (ne b).temps) h)]) (by kernel_rfl) (by kernel_rfl) ?_
        (repeat (first | refine WE.step rfl ?_ | refine WE.load rfl rfl rfl rfl rfl rfl rfl ?_)); refine WE.index rfl rfl rfl rfl rfl rfl rfl (by decide) (by decide) ?_; refine WE.loadHA rfl rfl rfl rfl rfl rfl g1 g3 rfl ?_; (repeat (first | refine WE.step rfl ?_ | refine WE.load rfl rfl rfl rfl rfl rfl rfl ?_)); refine WE.index rfl rfl rfl rfl rfl rfl rfl (by decide) (by decide) ?_; refine WE.loadHA rfl rfl rfl rfl rfl rfl g4 g6 rfl ?_; (repeat (first | refine WE.step rfl ?_ | refine WE.load rfl rfl rfl rfl rfl rfl rfl ?_)); refine WE.callIs rfl rfl rfl rfl rfl rfl rfl rfl rfl (fun L => temps_does w0 h N a ca L (by omega) (by omega) h3 g2) ?_; refine WE.callIs rfl rfl rfl rfl rfl rfl rfl rfl rfl (fun L => temps_does w0 h N b cb L (by omega) (by omega) h4 g5) ?_
        refine WE.nil (l := []) rfl ?_
        (repeat (first | refine V.step rfl ?_ | refine V.load rfl rfl rfl rfl rfl rfl ?_ | refine V.store rfl rfl rfl rfl rfl rfl rfl ?_ | refine V.condT rfl ?_ | refine V.condF rfl ?_)); refine V.ret1 rfl rfl rfl ⟨?_, GH.le_refl _, (by repeat (first | exact List.Sublist.refl _ | apply List.Sublist.cons))⟩
        simp [spillB] at hc
        refine int64_eq ?_; simp only [ne, nel, jn]; have hq : ¬ (o ≠ 20 ∧ o ≠ 21 ∧ (ne a).regs = 3 ∧ (ne b).regs = 3) := (fun hq => hc hq.1 hq.2.1 hq.2.2.1 hq.2.2.2); rw [if_neg hq]; simp only [Int.max_def]; (repeat' split) <;> omega
    · obtain ⟨b, off, cap, ca, rfl, g1, g2, g3⟩ := RK_p1 hr
      simp only [sz, szl] at hn
      refine Does.is (Does.of_V (cfg w0 20 Tryd.f20 41 (RIs (.int .i64 _) h L) Tryd.func20) rfl rfl rfl rfl ?_); (repeat (first | refine V.step rfl ?_ | refine V.load rfl rfl rfl rfl rfl rfl ?_ | refine V.store rfl rfl rfl rfl rfl rfl rfl ?_ | refine V.condT rfl ?_ | refine V.condF rfl ?_)); refine V.box rfl rfl rfl rfl rfl rfl fun be => ?_; (repeat (first | refine V.step rfl ?_ | refine V.load rfl rfl rfl rfl rfl rfl ?_ | refine V.store rfl rfl rfl rfl rfl rfl rfl ?_ | refine V.condT rfl ?_ | refine V.condF rfl ?_)); refine V.index rfl rfl rfl rfl rfl rfl (by decide) (by decide) ?_; refine V.loadHA rfl rfl rfl rfl rfl g1 g3 rfl ?_; refine V.callIs rfl rfl rfl rfl rfl rfl (temps_does w0 h N a ca _ (by omega) (by omega) h3 g2) ?_; (repeat (first | refine V.step rfl ?_ | refine V.load rfl rfl rfl rfl rfl rfl ?_ | refine V.store rfl rfl rfl rfl rfl rfl rfl ?_ | refine V.condT rfl ?_ | refine V.condF rfl ?_)); refine V.ret1 rfl rfl rfl ⟨?_, GH.le_refl _, (by repeat (first | exact List.Sublist.refl _ | apply List.Sublist.cons))⟩; rfl

theorem safe_does (w0 : World) (h : GH) : ∀ (N : Nat) (e : KE) (cs : List Value) (L : List Ent), sz e ≤ N → fine e = true → RK h e cs → Does Tryd.prog w0 21 [.agg ⟨cs⟩] h L (Is (.bool (ne e).safe) h L)
  | 0, e, cs, L, hn, hf, hr => by have := sz_pos e; omega
  | N + 1, e, cs, L, hn, hf, hr => by
    have hr' := hr
    rcases fine_cases hf with ⟨n, rfl⟩ | ⟨v, h1, h2, rfl⟩ | ⟨v, a, h1, h2, h3, rfl⟩ | ⟨o, a, h1, h2, h3, rfl⟩ | ⟨o, a, b, h1, h2, h3, h4, rfl⟩ | ⟨t, a, h1, h2, h3, rfl⟩
    · (obtain ⟨a', cap, rfl⟩ := RK_p0 hr; refine Does.is (Does.of_V (cfg w0 21 Tryd.f21 20 (RIs (.bool _) h L) Tryd.func21) rfl rfl rfl rfl ?_); (repeat (first | refine V.step rfl ?_ | refine V.load rfl rfl rfl rfl rfl rfl ?_ | refine V.store rfl rfl rfl rfl rfl rfl rfl ?_ | refine V.condT rfl ?_ | refine V.condF rfl ?_)); refine V.box rfl rfl rfl rfl rfl rfl fun be => ?_; (repeat (first | refine V.step rfl ?_ | refine V.load rfl rfl rfl rfl rfl rfl ?_ | refine V.store rfl rfl rfl rfl rfl rfl rfl ?_ | refine V.condT rfl ?_ | refine V.condF rfl ?_)); refine V.loop1 ?_; (repeat (first | refine V.step rfl ?_ | refine V.load rfl rfl rfl rfl rfl rfl ?_ | refine V.store rfl rfl rfl rfl rfl rfl rfl ?_ | refine V.condT rfl ?_ | refine V.condF rfl ?_)); refine V.callIs rfl rfl rfl rfl rfl rfl (sure_does w0 h _ _ _ hr') ?_; (repeat (first | refine V.step rfl ?_ | refine V.load rfl rfl rfl rfl rfl rfl ?_ | refine V.store rfl rfl rfl rfl rfl rfl rfl ?_ | refine V.condT rfl ?_ | refine V.condF rfl ?_)); refine V.ret1 rfl rfl rfl ⟨?_, GH.le_refl _, (by repeat (first | exact List.Sublist.refl _ | apply List.Sublist.cons))⟩; rfl)
    · (obtain ⟨a', cap, rfl⟩ := RK_p0 hr; refine Does.is (Does.of_V (cfg w0 21 Tryd.f21 20 (RIs (.bool _) h L) Tryd.func21) rfl rfl rfl rfl ?_); (repeat (first | refine V.step rfl ?_ | refine V.load rfl rfl rfl rfl rfl rfl ?_ | refine V.store rfl rfl rfl rfl rfl rfl rfl ?_ | refine V.condT rfl ?_ | refine V.condF rfl ?_)); refine V.box rfl rfl rfl rfl rfl rfl fun be => ?_; (repeat (first | refine V.step rfl ?_ | refine V.load rfl rfl rfl rfl rfl rfl ?_ | refine V.store rfl rfl rfl rfl rfl rfl rfl ?_ | refine V.condT rfl ?_ | refine V.condF rfl ?_)); refine V.loop1 ?_; (repeat (first | refine V.step rfl ?_ | refine V.load rfl rfl rfl rfl rfl rfl ?_ | refine V.store rfl rfl rfl rfl rfl rfl rfl ?_ | refine V.condT rfl ?_ | refine V.condF rfl ?_)); refine V.callIs rfl rfl rfl rfl rfl rfl (sure_does w0 h _ _ _ hr') ?_; (repeat (first | refine V.step rfl ?_ | refine V.load rfl rfl rfl rfl rfl rfl ?_ | refine V.store rfl rfl rfl rfl rfl rfl rfl ?_ | refine V.condT rfl ?_ | refine V.condF rfl ?_)); refine V.ret1 rfl rfl rfl ⟨?_, GH.le_refl _, (by repeat (first | exact List.Sublist.refl _ | apply List.Sublist.cons))⟩; rfl)
    · (obtain ⟨b, off, cap, ca, rfl, g1, g2, g3⟩ := RK_p1 hr; simp only [sz, szl] at hn; refine Does.is (Does.of_V (cfg w0 21 Tryd.f21 20 (RIs (.bool _) h L) Tryd.func21) rfl rfl rfl rfl ?_); (repeat (first | refine V.step rfl ?_ | refine V.load rfl rfl rfl rfl rfl rfl ?_ | refine V.store rfl rfl rfl rfl rfl rfl rfl ?_ | refine V.condT rfl ?_ | refine V.condF rfl ?_)); refine V.box rfl rfl rfl rfl rfl rfl fun be => ?_; (repeat (first | refine V.step rfl ?_ | refine V.load rfl rfl rfl rfl rfl rfl ?_ | refine V.store rfl rfl rfl rfl rfl rfl rfl ?_ | refine V.condT rfl ?_ | refine V.condF rfl ?_)); refine V.loop1 ?_; (repeat (first | refine V.step rfl ?_ | refine V.load rfl rfl rfl rfl rfl rfl ?_ | refine V.store rfl rfl rfl rfl rfl rfl rfl ?_ | refine V.condT rfl ?_ | refine V.condF rfl ?_)); refine V.index rfl rfl rfl rfl rfl rfl (by decide) (by decide) ?_; refine V.loadHA rfl rfl rfl rfl rfl g1 g3 rfl ?_; refine V.callIs rfl rfl rfl rfl rfl rfl (safe_does w0 h N a ca _ (by omega) h3 g2) ?_; (repeat (first | refine V.step rfl ?_ | refine V.load rfl rfl rfl rfl rfl rfl ?_ | refine V.store rfl rfl rfl rfl rfl rfl rfl ?_ | refine V.condT rfl ?_ | refine V.condF rfl ?_)); refine V.cond rfl (fun hc => (by (repeat (first | refine V.step rfl ?_ | refine V.load rfl rfl rfl rfl rfl rfl ?_ | refine V.store rfl rfl rfl rfl rfl rfl rfl ?_ | refine V.condT rfl ?_ | refine V.condF rfl ?_)); refine V.ret1 rfl rfl rfl ⟨?_, GH.le_refl _, (by repeat (first | exact List.Sublist.refl _ | apply List.Sublist.cons))⟩; (simp at hc); simp [ne, nel, jn, hc])) (fun hc => (by (repeat (first | refine V.step rfl ?_ | refine V.load rfl rfl rfl rfl rfl rfl ?_ | refine V.store rfl rfl rfl rfl rfl rfl rfl ?_ | refine V.condT rfl ?_ | refine V.condF rfl ?_)); refine V.again ?_; (repeat (first | refine V.step rfl ?_ | refine V.load rfl rfl rfl rfl rfl rfl ?_ | refine V.store rfl rfl rfl rfl rfl rfl rfl ?_ | refine V.condT rfl ?_ | refine V.condF rfl ?_)); refine V.callIs rfl rfl rfl rfl rfl rfl (sure_does w0 h _ _ _ hr') ?_; (repeat (first | refine V.step rfl ?_ | refine V.load rfl rfl rfl rfl rfl rfl ?_ | refine V.store rfl rfl rfl rfl rfl rfl rfl ?_ | refine V.condT rfl ?_ | refine V.condF rfl ?_)); refine V.ret1 rfl rfl rfl ⟨?_, GH.le_refl _, (by repeat (first | exact List.Sublist.refl _ | apply List.Sublist.cons))⟩; (simp at hc); simp [ne, nel, jn, hc, sureB, KE.kind, KE.oper, KE.to, KE.n, KE.v, KE.l])))
    · (obtain ⟨b, off, cap, ca, rfl, g1, g2, g3⟩ := RK_p1 hr; simp only [sz, szl] at hn; refine Does.is (Does.of_V (cfg w0 21 Tryd.f21 20 (RIs (.bool _) h L) Tryd.func21) rfl rfl rfl rfl ?_); (repeat (first | refine V.step rfl ?_ | refine V.load rfl rfl rfl rfl rfl rfl ?_ | refine V.store rfl rfl rfl rfl rfl rfl rfl ?_ | refine V.condT rfl ?_ | refine V.condF rfl ?_)); refine V.box rfl rfl rfl rfl rfl rfl fun be => ?_; (repeat (first | refine V.step rfl ?_ | refine V.load rfl rfl rfl rfl rfl rfl ?_ | refine V.store rfl rfl rfl rfl rfl rfl rfl ?_ | refine V.condT rfl ?_ | refine V.condF rfl ?_)); refine V.loop1 ?_; (repeat (first | refine V.step rfl ?_ | refine V.load rfl rfl rfl rfl rfl rfl ?_ | refine V.store rfl rfl rfl rfl rfl rfl rfl ?_ | refine V.condT rfl ?_ | refine V.condF rfl ?_)); refine V.index rfl rfl rfl rfl rfl rfl (by decide) (by decide) ?_; refine V.loadHA rfl rfl rfl rfl rfl g1 g3 rfl ?_; refine V.callIs rfl rfl rfl rfl rfl rfl (safe_does w0 h N a ca _ (by omega) h3 g2) ?_; (repeat (first | refine V.step rfl ?_ | refine V.load rfl rfl rfl rfl rfl rfl ?_ | refine V.store rfl rfl rfl rfl rfl rfl rfl ?_ | refine V.condT rfl ?_ | refine V.condF rfl ?_)); refine V.cond rfl (fun hc => (by (repeat (first | refine V.step rfl ?_ | refine V.load rfl rfl rfl rfl rfl rfl ?_ | refine V.store rfl rfl rfl rfl rfl rfl rfl ?_ | refine V.condT rfl ?_ | refine V.condF rfl ?_)); refine V.ret1 rfl rfl rfl ⟨?_, GH.le_refl _, (by repeat (first | exact List.Sublist.refl _ | apply List.Sublist.cons))⟩; (simp at hc); simp [ne, nel, jn, hc])) (fun hc => (by (repeat (first | refine V.step rfl ?_ | refine V.load rfl rfl rfl rfl rfl rfl ?_ | refine V.store rfl rfl rfl rfl rfl rfl rfl ?_ | refine V.condT rfl ?_ | refine V.condF rfl ?_)); refine V.again ?_; (repeat (first | refine V.step rfl ?_ | refine V.load rfl rfl rfl rfl rfl rfl ?_ | refine V.store rfl rfl rfl rfl rfl rfl rfl ?_ | refine V.condT rfl ?_ | refine V.condF rfl ?_)); refine V.callIs rfl rfl rfl rfl rfl rfl (sure_does w0 h _ _ _ hr') ?_; (repeat (first | refine V.step rfl ?_ | refine V.load rfl rfl rfl rfl rfl rfl ?_ | refine V.store rfl rfl rfl rfl rfl rfl rfl ?_ | refine V.condT rfl ?_ | refine V.condF rfl ?_)); refine V.ret1 rfl rfl rfl ⟨?_, GH.le_refl _, (by repeat (first | exact List.Sublist.refl _ | apply List.Sublist.cons))⟩; (simp at hc); simp [ne, nel, jn, hc, sureB, KE.kind, KE.oper, KE.to, KE.n, KE.v, KE.l])))
    · obtain ⟨b', off, cap, ca, cb, rfl, g1, g2, g3, g4, g5, g6⟩ := RK_p2 hr
      simp only [sz, szl] at hn
      refine Does.is (Does.of_V (cfg w0 21 Tryd.f21 20 (RIs (.bool _) h L) Tryd.func21) rfl rfl rfl rfl ?_); (repeat (first | refine V.step rfl ?_ | refine V.load rfl rfl rfl rfl rfl rfl ?_ | refine V.store rfl rfl rfl rfl rfl rfl rfl ?_ | refine V.condT rfl ?_ | refine V.condF rfl ?_)); refine V.box rfl rfl rfl rfl rfl rfl fun be => ?_; (repeat (first | refine V.step rfl ?_ | refine V.load rfl rfl rfl rfl rfl rfl ?_ | refine V.store rfl rfl rfl rfl rfl rfl rfl ?_ | refine V.condT rfl ?_ | refine V.condF rfl ?_)); refine V.loop1 ?_; (repeat (first | refine V.step rfl ?_ | refine V.load rfl rfl rfl rfl rfl rfl ?_ | refine V.store rfl rfl rfl rfl rfl rfl rfl ?_ | refine V.condT rfl ?_ | refine V.condF rfl ?_)); refine V.index rfl rfl rfl rfl rfl rfl (by decide) (by decide) ?_; refine V.loadHA rfl rfl rfl rfl rfl g1 g3 rfl ?_; refine V.callIs rfl rfl rfl rfl rfl rfl (safe_does w0 h N a ca _ (by omega) h3 g2) ?_; (repeat (first | refine V.step rfl ?_ | refine V.load rfl rfl rfl rfl rfl rfl ?_ | refine V.store rfl rfl rfl rfl rfl rfl rfl ?_ | refine V.condT rfl ?_ | refine V.condF rfl ?_))
      refine V.cond rfl (fun hc => ?_) (fun hc => ?_)
      · (repeat (first | refine V.step rfl ?_ | refine V.load rfl rfl rfl rfl rfl rfl ?_ | refine V.store rfl rfl rfl rfl rfl rfl rfl ?_ | refine V.condT rfl ?_ | refine V.condF rfl ?_)); refine V.ret1 rfl rfl rfl ⟨?_, GH.le_refl _, (by repeat (first | exact List.Sublist.refl _ | apply List.Sublist.cons))⟩; (simp at hc); simp [ne, nel, jn, hc]
      · (repeat (first | refine V.step rfl ?_ | refine V.load rfl rfl rfl rfl rfl rfl ?_ | refine V.store rfl rfl rfl rfl rfl rfl rfl ?_ | refine V.condT rfl ?_ | refine V.condF rfl ?_)); refine V.again ?_; (repeat (first | refine V.step rfl ?_ | refine V.load rfl rfl rfl rfl rfl rfl ?_ | refine V.store rfl rfl rfl rfl rfl rfl rfl ?_ | refine V.condT rfl ?_ | refine V.condF rfl ?_)); refine V.index rfl rfl rfl rfl rfl rfl (by decide) (by decide) ?_; refine V.loadHA rfl rfl rfl rfl rfl g4 g6 rfl ?_; refine V.callIs rfl rfl rfl rfl rfl rfl (safe_does w0 h N b cb _ (by omega) h4 g5) ?_; (repeat (first | refine V.step rfl ?_ | refine V.load rfl rfl rfl rfl rfl rfl ?_ | refine V.store rfl rfl rfl rfl rfl rfl rfl ?_ | refine V.condT rfl ?_ | refine V.condF rfl ?_))
        refine V.cond rfl (fun hd => ?_) (fun hd => ?_)
        · (repeat (first | refine V.step rfl ?_ | refine V.load rfl rfl rfl rfl rfl rfl ?_ | refine V.store rfl rfl rfl rfl rfl rfl rfl ?_ | refine V.condT rfl ?_ | refine V.condF rfl ?_)); refine V.ret1 rfl rfl rfl ⟨?_, GH.le_refl _, (by repeat (first | exact List.Sublist.refl _ | apply List.Sublist.cons))⟩; (simp at hc hd); simp [ne, nel, jn, hc, hd]
        · (repeat (first | refine V.step rfl ?_ | refine V.load rfl rfl rfl rfl rfl rfl ?_ | refine V.store rfl rfl rfl rfl rfl rfl rfl ?_ | refine V.condT rfl ?_ | refine V.condF rfl ?_)); refine V.again ?_; (repeat (first | refine V.step rfl ?_ | refine V.load rfl rfl rfl rfl rfl rfl ?_ | refine V.store rfl rfl rfl rfl rfl rfl rfl ?_ | refine V.condT rfl ?_ | refine V.condF rfl ?_)); refine V.callIs rfl rfl rfl rfl rfl rfl (sure_does w0 h _ _ _ hr') ?_; (repeat (first | refine V.step rfl ?_ | refine V.load rfl rfl rfl rfl rfl rfl ?_ | refine V.store rfl rfl rfl rfl rfl rfl rfl ?_ | refine V.condT rfl ?_ | refine V.condF rfl ?_)); refine V.ret1 rfl rfl rfl ⟨?_, GH.le_refl _, (by repeat (first | exact List.Sublist.refl _ | apply List.Sublist.cons))⟩; (simp at hc hd); simp [ne, nel, jn, hc, hd, sureB, KE.kind, KE.oper, KE.to, KE.n, KE.v, KE.l]
    · (obtain ⟨b, off, cap, ca, rfl, g1, g2, g3⟩ := RK_p1 hr; simp only [sz, szl] at hn; refine Does.is (Does.of_V (cfg w0 21 Tryd.f21 20 (RIs (.bool _) h L) Tryd.func21) rfl rfl rfl rfl ?_); (repeat (first | refine V.step rfl ?_ | refine V.load rfl rfl rfl rfl rfl rfl ?_ | refine V.store rfl rfl rfl rfl rfl rfl rfl ?_ | refine V.condT rfl ?_ | refine V.condF rfl ?_)); refine V.box rfl rfl rfl rfl rfl rfl fun be => ?_; (repeat (first | refine V.step rfl ?_ | refine V.load rfl rfl rfl rfl rfl rfl ?_ | refine V.store rfl rfl rfl rfl rfl rfl rfl ?_ | refine V.condT rfl ?_ | refine V.condF rfl ?_)); refine V.loop1 ?_; (repeat (first | refine V.step rfl ?_ | refine V.load rfl rfl rfl rfl rfl rfl ?_ | refine V.store rfl rfl rfl rfl rfl rfl rfl ?_ | refine V.condT rfl ?_ | refine V.condF rfl ?_)); refine V.index rfl rfl rfl rfl rfl rfl (by decide) (by decide) ?_; refine V.loadHA rfl rfl rfl rfl rfl g1 g3 rfl ?_; refine V.callIs rfl rfl rfl rfl rfl rfl (safe_does w0 h N a ca _ (by omega) h3 g2) ?_; (repeat (first | refine V.step rfl ?_ | refine V.load rfl rfl rfl rfl rfl rfl ?_ | refine V.store rfl rfl rfl rfl rfl rfl rfl ?_ | refine V.condT rfl ?_ | refine V.condF rfl ?_)); refine V.cond rfl (fun hc => (by (repeat (first | refine V.step rfl ?_ | refine V.load rfl rfl rfl rfl rfl rfl ?_ | refine V.store rfl rfl rfl rfl rfl rfl rfl ?_ | refine V.condT rfl ?_ | refine V.condF rfl ?_)); refine V.ret1 rfl rfl rfl ⟨?_, GH.le_refl _, (by repeat (first | exact List.Sublist.refl _ | apply List.Sublist.cons))⟩; (simp at hc); simp [ne, nel, jn, hc])) (fun hc => (by (repeat (first | refine V.step rfl ?_ | refine V.load rfl rfl rfl rfl rfl rfl ?_ | refine V.store rfl rfl rfl rfl rfl rfl rfl ?_ | refine V.condT rfl ?_ | refine V.condF rfl ?_)); refine V.again ?_; (repeat (first | refine V.step rfl ?_ | refine V.load rfl rfl rfl rfl rfl rfl ?_ | refine V.store rfl rfl rfl rfl rfl rfl rfl ?_ | refine V.condT rfl ?_ | refine V.condF rfl ?_)); refine V.callIs rfl rfl rfl rfl rfl rfl (sure_does w0 h _ _ _ hr') ?_; (repeat (first | refine V.step rfl ?_ | refine V.load rfl rfl rfl rfl rfl rfl ?_ | refine V.store rfl rfl rfl rfl rfl rfl rfl ?_ | refine V.condT rfl ?_ | refine V.condF rfl ?_)); refine V.ret1 rfl rfl rfl ⟨?_, GH.le_refl _, (by repeat (first | exact List.Sublist.refl _ | apply List.Sublist.cons))⟩; (simp at hc); simp [ne, nel, jn, hc, sureB, KE.kind, KE.oper, KE.to, KE.n, KE.v, KE.l])))

/-- valid, in such room -/
def fits (e : KE) (room deep : Int) : Prop := fine e = true ∧ (sz e : Int) ≤ room ∧ (ht e : Int) ≤ deep
instance (e : KE) (room deep : Int) : Decidable (fits e room deep) := by unfold fits; infer_instance
def lookI (e : KE) (room deep : Int) : Int := if fits e room deep then sz e else -1
theorem look_yes {e : KE} {r d : Int} (h : fits e r d) : lookI e r d = sz e := if_pos h
theorem look_no {e : KE} {r d : Int} (h : ¬ fits e r d) : lookI e r d = -1 := if_neg h
theorem fits_not {e : KE} {r d : Int} (h : r < 1 ∨ d < 1 ∨ shapeB e = false) : ¬ fits e r d := by
  rintro ⟨h1, h2, h3⟩
  have := sz_pos e
  have := ht_pos e
  rcases h with h | h | h
  · omega
  · omega
  · obtain ⟨k, o, t, n, v, l⟩ := e
    simp only [fine, h, Bool.false_and] at h1
    cases h1
theorem shape_cases {e : KE} (h : shapeB e = true) : (∃ k o t n v, e = ⟨k, o, t, n, v, []⟩) ∨ (∃ k o t n v a, e = ⟨k, o, t, n, v, [a]⟩) ∨ (∃ k o t n v a b, e = ⟨k, o, t, n, v, [a, b]⟩) := by
  obtain ⟨k, o, t, n, v, l⟩ := e
  match l with
  | [] => exact .inl ⟨k, o, t, n, v, rfl⟩
  | [a] => exact .inr (.inl ⟨k, o, t, n, v, a, rfl⟩)
  | [a, b] => exact .inr (.inr ⟨k, o, t, n, v, a, b, rfl⟩)
  | a :: b :: c :: r =>
    simp only [shapeB, KE.kind, KE.oper, KE.to, KE.n, KE.v, KE.l, List.length_cons] at h
    exfalso
    revert h
    (repeat' split) <;> simp <;> omega

theorem lookI_neg {e : KE} {r d : Int} : lookI e r d < 0 ↔ ¬ fits e r d := by
  unfold lookI; split
  · rename_i h; constructor
    · intro hh; have := sz_pos e; omega
    · intro hh; exact (hh h).elim
  · rename_i h; exact ⟨fun _ => h, fun _ => by decide⟩
theorem fits1 {k o t n v : Int} {a : KE} {room deep : Int} (hs : shapeB ⟨k, o, t, n, v, [a]⟩ = true) : fits ⟨k, o, t, n, v, [a]⟩ room deep ↔ fits a (room - 1) (deep - 1) := by
  simp only [fits, fine, finel, hs, sz, szl, ht, htl, Bool.true_and, Bool.and_true]
  constructor
  · rintro ⟨h1, h2, h3⟩; exact ⟨h1, by omega, by omega⟩
  · rintro ⟨h1, h2, h3⟩; exact ⟨h1, by omega, by omega⟩
theorem fits2 {k o t n v : Int} {a b : KE} {room deep : Int} (hs : shapeB ⟨k, o, t, n, v, [a, b]⟩ = true) : fits ⟨k, o, t, n, v, [a, b]⟩ room deep ↔ fits a (room - 1) (deep - 1) ∧ fits b (room - (1 + sz a)) (deep - 1) := by
  simp only [fits, fine, finel, hs, sz, szl, ht, htl, Bool.true_and, Bool.and_true, Bool.and_eq_true]
  have := sz_pos b
  constructor
  · rintro ⟨h1, h2, h3⟩; exact ⟨⟨h1.1, by omega, by omega⟩, ⟨h1.2, by omega, by omega⟩⟩
  · rintro ⟨⟨h1, h2, h3⟩, ⟨h4, h5, h6⟩⟩; exact ⟨⟨h1, h4⟩, by omega, by omega⟩
theorem look_does (w0 : World) (h : GH) : ∀ (N : Nat) (e : KE) (cs : List Value) (L : List Ent) (room deep : Int), sz e ≤ N → 0 ≤ room → room ≤ 1000000 → 0 ≤ deep → deep ≤ 1000000 → RK h e cs →
    Does Tryd.prog w0 23 [.agg ⟨cs⟩, .int .i64 room, .int .i64 deep] h L (Is (.int .i64 (lookI e room deep)) h L)
  | 0, e, cs, L, room, deep, hn, _, _, _, _, hr => by have := sz_pos e; omega
  | N + 1, e, cs, L, room, deep, hn, r0, r1, d0, d1, hr => by
    have hr' := hr
    by_cases hs : shapeB e = true
    · rcases shape_cases hs with ⟨k, o, t, n, v, rfl⟩ | ⟨k, o, t, n, v, a, rfl⟩ | ⟨k, o, t, n, v, a, b, rfl⟩
      · obtain ⟨a', cap, rfl⟩ := RK_p0 hr
        refine Does.is (Does.of_V (cfg w0 23 Tryd.f23 45 (RIs (.int .i64 _) h L) Tryd.func23) rfl rfl rfl rfl ?_); (repeat (first | refine V.step rfl ?_ | refine V.load rfl rfl rfl rfl rfl rfl ?_ | refine V.store rfl rfl rfl rfl rfl rfl rfl ?_ | refine V.condT rfl ?_ | refine V.condF rfl ?_)); refine V.box rfl rfl rfl rfl rfl rfl fun be => ?_; (repeat (first | refine V.step rfl ?_ | refine V.load rfl rfl rfl rfl rfl rfl ?_ | refine V.store rfl rfl rfl rfl rfl rfl rfl ?_ | refine V.condT rfl ?_ | refine V.condF rfl ?_))
        refine V.split 16 rfl (fun hc => (by simp at hc; (repeat (first | refine V.step rfl ?_ | refine V.load rfl rfl rfl rfl rfl rfl ?_ | refine V.store rfl rfl rfl rfl rfl rfl rfl ?_ | refine V.condT rfl ?_ | refine V.condF rfl ?_ | refine V.skip rfl rfl ?_ | refine V.pickT rfl rfl rfl rfl rfl ?_ | refine V.pickF rfl rfl rfl rfl rfl ?_)); refine V.ret1 rfl rfl rfl ⟨?_, GH.le_refl _, (by repeat (first | exact List.Sublist.refl _ | apply List.Sublist.cons))⟩; rw [look_no (fits_not (by omega))])) (fun hc => ?_); (simp at hc)
        · (repeat (first | refine V.step rfl ?_ | refine V.load rfl rfl rfl rfl rfl rfl ?_ | refine V.store rfl rfl rfl rfl rfl rfl rfl ?_ | refine V.condT rfl ?_ | refine V.condF rfl ?_)); refine V.callIs rfl rfl rfl rfl rfl rfl (shape_does w0 h _ _ _ hr') ?_; (repeat (first | refine V.step rfl ?_ | refine V.load rfl rfl rfl rfl rfl rfl ?_ | refine V.store rfl rfl rfl rfl rfl rfl rfl ?_ | refine V.condT rfl ?_ | refine V.condF rfl ?_)); refine V.cond rfl (fun hd => (by simp [hs] at hd)) (fun hd => ?_); (repeat (first | refine V.step rfl ?_ | refine V.load rfl rfl rfl rfl rfl rfl ?_ | refine V.store rfl rfl rfl rfl rfl rfl rfl ?_ | refine V.condT rfl ?_ | refine V.condF rfl ?_)); refine V.loop1 ?_; (repeat (first | refine V.step rfl ?_ | refine V.load rfl rfl rfl rfl rfl rfl ?_ | refine V.store rfl rfl rfl rfl rfl rfl rfl ?_ | refine V.condT rfl ?_ | refine V.condF rfl ?_))
          refine V.ret1 rfl rfl rfl ⟨?_, GH.le_refl _, (by repeat (first | exact List.Sublist.refl _ | apply List.Sublist.cons))⟩
          rw [look_yes ⟨by simp [fine, finel, hs], by simp [sz, szl]; omega, by simp [ht, htl]; omega⟩]; simp [sz, szl]
      · obtain ⟨b, off, cap, ca, rfl, g1, g2, g3⟩ := RK_p1 hr
        simp only [sz, szl] at hn
        have hsub : IntKind.i64.wrap (room - 1) = room - 1 := wr64 _ (by omega)
        have hsubd : IntKind.i64.wrap (deep - 1) = deep - 1 := wr64 _ (by omega)
        refine Does.is (Does.of_V (cfg w0 23 Tryd.f23 45 (RIs (.int .i64 _) h L) Tryd.func23) rfl rfl rfl rfl ?_); (repeat (first | refine V.step rfl ?_ | refine V.load rfl rfl rfl rfl rfl rfl ?_ | refine V.store rfl rfl rfl rfl rfl rfl rfl ?_ | refine V.condT rfl ?_ | refine V.condF rfl ?_)); refine V.box rfl rfl rfl rfl rfl rfl fun be => ?_; (repeat (first | refine V.step rfl ?_ | refine V.load rfl rfl rfl rfl rfl rfl ?_ | refine V.store rfl rfl rfl rfl rfl rfl rfl ?_ | refine V.condT rfl ?_ | refine V.condF rfl ?_))
        refine V.split 16 rfl (fun hc => (by simp at hc; (repeat (first | refine V.step rfl ?_ | refine V.load rfl rfl rfl rfl rfl rfl ?_ | refine V.store rfl rfl rfl rfl rfl rfl rfl ?_ | refine V.condT rfl ?_ | refine V.condF rfl ?_ | refine V.skip rfl rfl ?_ | refine V.pickT rfl rfl rfl rfl rfl ?_ | refine V.pickF rfl rfl rfl rfl rfl ?_)); refine V.ret1 rfl rfl rfl ⟨?_, GH.le_refl _, (by repeat (first | exact List.Sublist.refl _ | apply List.Sublist.cons))⟩; rw [look_no (fits_not (by omega))])) (fun hc => ?_); (simp at hc)
        · (repeat (first | refine V.step rfl ?_ | refine V.load rfl rfl rfl rfl rfl rfl ?_ | refine V.store rfl rfl rfl rfl rfl rfl rfl ?_ | refine V.condT rfl ?_ | refine V.condF rfl ?_)); refine V.callIs rfl rfl rfl rfl rfl rfl (shape_does w0 h _ _ _ hr') ?_; (repeat (first | refine V.step rfl ?_ | refine V.load rfl rfl rfl rfl rfl rfl ?_ | refine V.store rfl rfl rfl rfl rfl rfl rfl ?_ | refine V.condT rfl ?_ | refine V.condF rfl ?_)); refine V.cond rfl (fun hd => (by simp [hs] at hd)) (fun hd => ?_); (repeat (first | refine V.step rfl ?_ | refine V.load rfl rfl rfl rfl rfl rfl ?_ | refine V.store rfl rfl rfl rfl rfl rfl rfl ?_ | refine V.condT rfl ?_ | refine V.condF rfl ?_)); refine V.loop1 ?_; (repeat (first | refine V.step rfl ?_ | refine V.load rfl rfl rfl rfl rfl rfl ?_ | refine V.store rfl rfl rfl rfl rfl rfl rfl ?_ | refine V.condT rfl ?_ | refine V.condF rfl ?_))
          refine V.index rfl rfl rfl rfl rfl rfl (by decide) (by decide) ?_; refine V.loadHA rfl rfl rfl rfl rfl g1 g3 rfl ?_; (repeat (first | refine V.step rfl ?_ | refine V.load rfl rfl rfl rfl rfl rfl ?_ | refine V.store rfl rfl rfl rfl rfl rfl rfl ?_ | refine V.condT rfl ?_ | refine V.condF rfl ?_))
          refine V.val 35 rfl (int64_eq (wr64 (room - 1) (by omega))) ?_; refine V.val 37 rfl (int64_eq (wr64 (deep - 1) (by omega))) ?_
          refine V.callIs rfl rfl rfl rfl rfl rfl (look_does w0 h N a ca _ (room - 1) (deep - 1) (by omega) (by omega) (by omega) (by omega) (by omega) g2) ?_; (repeat (first | refine V.step rfl ?_ | refine V.load rfl rfl rfl rfl rfl rfl ?_ | refine V.store rfl rfl rfl rfl rfl rfl rfl ?_ | refine V.condT rfl ?_ | refine V.condF rfl ?_))
          refine V.cond rfl (fun he => ?_) (fun he => ?_)
          · simp [lookI_neg] at he; (repeat (first | refine V.step rfl ?_ | refine V.load rfl rfl rfl rfl rfl rfl ?_ | refine V.store rfl rfl rfl rfl rfl rfl rfl ?_ | refine V.condT rfl ?_ | refine V.condF rfl ?_)); refine V.ret1 rfl rfl rfl ⟨?_, GH.le_refl _, (by repeat (first | exact List.Sublist.refl _ | apply List.Sublist.cons))⟩; rw [look_no (fun hh => he ((fits1 hs).1 hh))]
          · simp [lookI_neg] at he; (repeat (first | refine V.step rfl ?_ | refine V.load rfl rfl rfl rfl rfl rfl ?_ | refine V.store rfl rfl rfl rfl rfl rfl rfl ?_ | refine V.condT rfl ?_ | refine V.condF rfl ?_)); refine V.again ?_; (repeat (first | refine V.step rfl ?_ | refine V.load rfl rfl rfl rfl rfl rfl ?_ | refine V.store rfl rfl rfl rfl rfl rfl rfl ?_ | refine V.condT rfl ?_ | refine V.condF rfl ?_)); refine V.ret1 rfl rfl rfl ⟨?_, GH.le_refl _, (by repeat (first | exact List.Sublist.refl _ | apply List.Sublist.cons))⟩; rw [look_yes he, look_yes ((fits1 hs).2 he)]; refine int64_eq ?_; have := he.2.1; rw [wr64 _ (by omega)]; simp [sz, szl]
      · obtain ⟨b', off, cap, ca, cb, rfl, g1, g2, g3, g4, g5, g6⟩ := RK_p2 hr
        simp only [sz, szl] at hn
        refine Does.is (Does.of_V (cfg w0 23 Tryd.f23 45 (RIs (.int .i64 _) h L) Tryd.func23) rfl rfl rfl rfl ?_); (repeat (first | refine V.step rfl ?_ | refine V.load rfl rfl rfl rfl rfl rfl ?_ | refine V.store rfl rfl rfl rfl rfl rfl rfl ?_ | refine V.condT rfl ?_ | refine V.condF rfl ?_)); refine V.box rfl rfl rfl rfl rfl rfl fun be => ?_; (repeat (first | refine V.step rfl ?_ | refine V.load rfl rfl rfl rfl rfl rfl ?_ | refine V.store rfl rfl rfl rfl rfl rfl rfl ?_ | refine V.condT rfl ?_ | refine V.condF rfl ?_))
        refine V.split 16 rfl (fun hc => (by simp at hc; (repeat (first | refine V.step rfl ?_ | refine V.load rfl rfl rfl rfl rfl rfl ?_ | refine V.store rfl rfl rfl rfl rfl rfl rfl ?_ | refine V.condT rfl ?_ | refine V.condF rfl ?_ | refine V.skip rfl rfl ?_ | refine V.pickT rfl rfl rfl rfl rfl ?_ | refine V.pickF rfl rfl rfl rfl rfl ?_)); refine V.ret1 rfl rfl rfl ⟨?_, GH.le_refl _, (by repeat (first | exact List.Sublist.refl _ | apply List.Sublist.cons))⟩; rw [look_no (fits_not (by omega))])) (fun hc => ?_); (simp at hc)
        · (repeat (first | refine V.step rfl ?_ | refine V.load rfl rfl rfl rfl rfl rfl ?_ | refine V.store rfl rfl rfl rfl rfl rfl rfl ?_ | refine V.condT rfl ?_ | refine V.condF rfl ?_)); refine V.callIs rfl rfl rfl rfl rfl rfl (shape_does w0 h _ _ _ hr') ?_; (repeat (first | refine V.step rfl ?_ | refine V.load rfl rfl rfl rfl rfl rfl ?_ | refine V.store rfl rfl rfl rfl rfl rfl rfl ?_ | refine V.condT rfl ?_ | refine V.condF rfl ?_)); refine V.cond rfl (fun hd => (by simp [hs] at hd)) (fun hd => ?_); (repeat (first | refine V.step rfl ?_ | refine V.load rfl rfl rfl rfl rfl rfl ?_ | refine V.store rfl rfl rfl rfl rfl rfl rfl ?_ | refine V.condT rfl ?_ | refine V.condF rfl ?_)); refine V.loop1 ?_; (repeat (first | refine V.step rfl ?_ | refine V.load rfl rfl rfl rfl rfl rfl ?_ | refine V.store rfl rfl rfl rfl rfl rfl rfl ?_ | refine V.condT rfl ?_ | refine V.condF rfl ?_))
          refine V.index rfl rfl rfl rfl rfl rfl (by decide) (by decide) ?_; refine V.loadHA rfl rfl rfl rfl rfl g1 g3 rfl ?_; (repeat (first | refine V.step rfl ?_ | refine V.load rfl rfl rfl rfl rfl rfl ?_ | refine V.store rfl rfl rfl rfl rfl rfl rfl ?_ | refine V.condT rfl ?_ | refine V.condF rfl ?_))
          refine V.val 35 rfl (int64_eq (wr64 (room - 1) (by omega))) ?_; refine V.val 37 rfl (int64_eq (wr64 (deep - 1) (by omega))) ?_
          refine V.callIs rfl rfl rfl rfl rfl rfl (look_does w0 h N a ca _ (room - 1) (deep - 1) (by omega) (by omega) (by omega) (by omega) (by omega) g2) ?_; (repeat (first | refine V.step rfl ?_ | refine V.load rfl rfl rfl rfl rfl rfl ?_ | refine V.store rfl rfl rfl rfl rfl rfl rfl ?_ | refine V.condT rfl ?_ | refine V.condF rfl ?_))
          refine V.cond rfl (fun he => ?_) (fun he => ?_)
          · simp [lookI_neg] at he; (repeat (first | refine V.step rfl ?_ | refine V.load rfl rfl rfl rfl rfl rfl ?_ | refine V.store rfl rfl rfl rfl rfl rfl rfl ?_ | refine V.condT rfl ?_ | refine V.condF rfl ?_)); refine V.ret1 rfl rfl rfl ⟨?_, GH.le_refl _, (by repeat (first | exact List.Sublist.refl _ | apply List.Sublist.cons))⟩; rw [look_no (fun hh => he ((fits2 hs).1 hh).1)]
          · simp [lookI_neg] at he
            have hea := he.2.1
            refine V.val 9 rfl (int64_eq (look_yes he)) ?_
            (repeat (first | refine V.step rfl ?_ | refine V.load rfl rfl rfl rfl rfl rfl ?_ | refine V.store rfl rfl rfl rfl rfl rfl rfl ?_ | refine V.condT rfl ?_ | refine V.condF rfl ?_)); refine V.val 7 rfl (int64_eq (wr64 (1 + sz a) (by omega))) ?_
            refine V.again ?_; (repeat (first | refine V.step rfl ?_ | refine V.load rfl rfl rfl rfl rfl rfl ?_ | refine V.store rfl rfl rfl rfl rfl rfl rfl ?_ | refine V.condT rfl ?_ | refine V.condF rfl ?_)); refine V.index rfl rfl rfl rfl rfl rfl (by decide) (by decide) ?_; refine V.loadHA rfl rfl rfl rfl rfl g4 g6 rfl ?_; (repeat (first | refine V.step rfl ?_ | refine V.load rfl rfl rfl rfl rfl rfl ?_ | refine V.store rfl rfl rfl rfl rfl rfl rfl ?_ | refine V.condT rfl ?_ | refine V.condF rfl ?_))
            refine V.val 35 rfl (int64_eq (wr64 (room - (1 + sz a)) (by omega))) ?_; refine V.val 37 rfl (int64_eq (wr64 (deep - 1) (by omega))) ?_
            refine V.callIs rfl rfl rfl rfl rfl rfl (look_does w0 h N b cb _ (room - (1 + sz a)) (deep - 1) (by omega) (by omega) (by omega) (by omega) (by omega) g5) ?_; (repeat (first | refine V.step rfl ?_ | refine V.load rfl rfl rfl rfl rfl rfl ?_ | refine V.store rfl rfl rfl rfl rfl rfl rfl ?_ | refine V.condT rfl ?_ | refine V.condF rfl ?_))
            refine V.cond rfl (fun hf => ?_) (fun hf => ?_)
            · simp [lookI_neg] at hf; (repeat (first | refine V.step rfl ?_ | refine V.load rfl rfl rfl rfl rfl rfl ?_ | refine V.store rfl rfl rfl rfl rfl rfl rfl ?_ | refine V.condT rfl ?_ | refine V.condF rfl ?_)); refine V.ret1 rfl rfl rfl ⟨?_, GH.le_refl _, (by repeat (first | exact List.Sublist.refl _ | apply List.Sublist.cons))⟩; rw [look_no (fun hh => hf ((fits2 hs).1 hh).2)]
            · simp [lookI_neg] at hf; (repeat (first | refine V.step rfl ?_ | refine V.load rfl rfl rfl rfl rfl rfl ?_ | refine V.store rfl rfl rfl rfl rfl rfl rfl ?_ | refine V.condT rfl ?_ | refine V.condF rfl ?_)); refine V.again ?_; (repeat (first | refine V.step rfl ?_ | refine V.load rfl rfl rfl rfl rfl rfl ?_ | refine V.store rfl rfl rfl rfl rfl rfl rfl ?_ | refine V.condT rfl ?_ | refine V.condF rfl ?_)); refine V.ret1 rfl rfl rfl ⟨?_, GH.le_refl _, (by repeat (first | exact List.Sublist.refl _ | apply List.Sublist.cons))⟩; rw [look_yes hf, look_yes ((fits2 hs).2 ⟨he, hf⟩)]; refine int64_eq ?_; have := hf.2.1; rw [wr64 _ (by omega)]; simp [sz, szl]; omega
    · obtain ⟨k, o, t, n, v, l⟩ := e
      simp only [RK] at hr
      obtain ⟨hz, a, cap, rfl, hcap, hl⟩ := hr
      refine Does.is (Does.of_V (cfg w0 23 Tryd.f23 45 (RIs (.int .i64 _) h L) Tryd.func23) rfl rfl rfl rfl ?_); (repeat (first | refine V.step rfl ?_ | refine V.load rfl rfl rfl rfl rfl rfl ?_ | refine V.store rfl rfl rfl rfl rfl rfl rfl ?_ | refine V.condT rfl ?_ | refine V.condF rfl ?_)); refine V.box rfl rfl rfl rfl rfl rfl fun be => ?_; (repeat (first | refine V.step rfl ?_ | refine V.load rfl rfl rfl rfl rfl rfl ?_ | refine V.store rfl rfl rfl rfl rfl rfl rfl ?_ | refine V.condT rfl ?_ | refine V.condF rfl ?_))
      refine V.split 16 rfl (fun hc => (by simp at hc; (repeat (first | refine V.step rfl ?_ | refine V.load rfl rfl rfl rfl rfl rfl ?_ | refine V.store rfl rfl rfl rfl rfl rfl rfl ?_ | refine V.condT rfl ?_ | refine V.condF rfl ?_ | refine V.skip rfl rfl ?_ | refine V.pickT rfl rfl rfl rfl rfl ?_ | refine V.pickF rfl rfl rfl rfl rfl ?_)); refine V.ret1 rfl rfl rfl ⟨?_, GH.le_refl _, (by repeat (first | exact List.Sublist.refl _ | apply List.Sublist.cons))⟩; rw [look_no (fits_not (by omega))])) (fun hc => ?_); (simp at hc)
      · (repeat (first | refine V.step rfl ?_ | refine V.load rfl rfl rfl rfl rfl rfl ?_ | refine V.store rfl rfl rfl rfl rfl rfl rfl ?_ | refine V.condT rfl ?_ | refine V.condF rfl ?_)); refine V.callIs rfl rfl rfl rfl rfl rfl (shape_does w0 h _ _ _ hr') ?_; (repeat (first | refine V.step rfl ?_ | refine V.load rfl rfl rfl rfl rfl rfl ?_ | refine V.store rfl rfl rfl rfl rfl rfl rfl ?_ | refine V.condT rfl ?_ | refine V.condF rfl ?_)); refine V.cond rfl (fun hd => ?_) (fun hd => (by simp at hd; exact (hs hd).elim)); (repeat (first | refine V.step rfl ?_ | refine V.load rfl rfl rfl rfl rfl rfl ?_ | refine V.store rfl rfl rfl rfl rfl rfl rfl ?_ | refine V.condT rfl ?_ | refine V.condF rfl ?_)); refine V.ret1 rfl rfl rfl ⟨?_, GH.le_refl _, (by repeat (first | exact List.Sublist.refl _ | apply List.Sublist.cons))⟩; rw [look_no (fits_not (.inr (.inr (by simpa using hs))))]
end Go.Proofs.YtppapfhfkkafdaaDoor
