/-
  Texts S22c S22d S22e S22f S22g S22y, in one. Conditions: as each theorem says.
-/
import Derived.Test.YtgmeahcclogfmaaGreatDoorM4
import Derived.Test.YtgmeahcclogfmaaGreatDoorM1
/-!
  Chapter 22: what an expression needs; the clear text's walks.
-/
namespace Go.Proofs.YtgmeahcclogfmaaGreatDoor.S22
open Go Go.Tp
set_option linter.unusedVariables false
set_option linter.unusedSimpArgs false
set_option maxRecDepth 100000
set_option maxHeartbeats 4000000
structure NR where
  safe : Bool
  regs : Int
  temps : Int
mutual
def sz : KE → Nat
  | ⟨_, _, _, _, _, l⟩ => 1 + szl l
def szl : List KE → Nat
  | [] => 0
  | e :: r => sz e + szl r
end
mutual
def ht : KE → Nat
  | ⟨_, _, _, _, _, l⟩ => 1 + htl l
def htl : List KE → Nat
  | [] => 0
  | e :: r => max (ht e) (htl r)
end
mutual
def fine : KE → Bool
  | ⟨k, o, t, n, v, l⟩ => shapeB ⟨k, o, t, n, v, l⟩ && finel l
def finel : List KE → Bool
  | [] => true
  | e :: r => fine e && finel r
end
def easyB (k o t : Int) : Bool := if k = 4 then (o == 25 || o == 26) else if k = 6 then t == 1 else false
def jn (k o t n v : Int) : List NR → NR
  | [] => ⟨sureB ⟨k, o, t, n, v, []⟩, 1, 0⟩
  | [a] => ⟨a.safe && sureB ⟨k, o, t, n, v, []⟩, if easyB k o t then a.regs else max a.regs 2, a.temps⟩
  | a :: b :: _ => ⟨a.safe && b.safe && sureB ⟨k, o, t, n, v, []⟩, if o ≠ 20 ∧ o ≠ 21 ∧ a.regs = b.regs then min (a.regs + 1) 3 else max a.regs b.regs,
      if o ≠ 20 ∧ o ≠ 21 ∧ a.regs = 3 ∧ b.regs = 3 then max b.temps (a.temps + 1) else max a.temps b.temps⟩
mutual
def ne : KE → NR
  | ⟨k, o, t, n, v, l⟩ => jn k o t n v (nel l)
def nel : List KE → List NR
  | [] => []
  | e :: r => ne e :: nel r
end
theorem fine_cases {e : KE} (h : fine e = true) : (∃ n, e = ⟨1, 0, 0, n, 0, []⟩) ∨ (∃ v, 0 ≤ v ∧ v ≤ 255 ∧ e = ⟨2, 0, 0, 0, v, []⟩) ∨ (∃ v a, 0 ≤ v ∧ v ≤ 255 ∧ fine a = true ∧ e = ⟨3, 0, 0, 0, v, [a]⟩) ∨
    (∃ o a, 23 ≤ o ∧ o ≤ 26 ∧ fine a = true ∧ e = ⟨4, o, 0, 0, 0, [a]⟩) ∨ (∃ o a b, 1 ≤ o ∧ o ≤ 22 ∧ fine a = true ∧ fine b = true ∧ e = ⟨5, o, 0, 0, 0, [a, b]⟩) ∨ (∃ t a, 1 ≤ t ∧ t ≤ 3 ∧ fine a = true ∧ e = ⟨6, 0, t, 0, 0, [a]⟩) := by
  obtain ⟨k, o, t, n, v, l⟩ := e
  simp only [fine, Bool.and_eq_true] at h
  obtain ⟨h1, h2⟩ := h
  simp only [shapeB, KE.kind, KE.oper, KE.to, KE.n, KE.v, KE.l] at h1
  have l0 : l.length = 0 → l = [] := fun h => List.length_eq_zero_iff.1 h
  have l1 : l.length = 1 → ∃ a, l = [a] := fun h => by
    match l, h with
    | [a], _ => exact ⟨a, rfl⟩
  have l2 : l.length = 2 → ∃ a b, l = [a, b] := fun h => by
    match l, h with
    | [a, b], _ => exact ⟨a, b, rfl⟩
  split at h1
  · subst_vars; simp at h1; obtain ⟨⟨⟨rfl, rfl⟩, rfl⟩, h⟩ := h1; rw [h]; exact .inl ⟨n, rfl⟩
  split at h1
  · subst_vars; simp at h1; obtain ⟨⟨⟨⟨⟨rfl, rfl⟩, rfl⟩, h3⟩, h4⟩, h⟩ := h1; rw [h]; exact .inr (.inl ⟨v, h3, h4, rfl⟩)
  split at h1
  · subst_vars; simp at h1; obtain ⟨⟨⟨⟨⟨rfl, rfl⟩, rfl⟩, h3⟩, h4⟩, h⟩ := h1; obtain ⟨a, rfl⟩ := l1 h; simp [finel] at h2; exact .inr (.inr (.inl ⟨v, a, h3, h4, h2, rfl⟩))
  split at h1
  · subst_vars; simp at h1; obtain ⟨⟨⟨⟨⟨h3, h4⟩, rfl⟩, rfl⟩, rfl⟩, h⟩ := h1; obtain ⟨a, rfl⟩ := l1 h; simp [finel] at h2; exact .inr (.inr (.inr (.inl ⟨o, a, h3, h4, h2, rfl⟩)))
  split at h1
  · subst_vars; simp at h1; obtain ⟨⟨⟨⟨⟨h3, h4⟩, rfl⟩, rfl⟩, rfl⟩, h⟩ := h1; obtain ⟨a, b, rfl⟩ := l2 h; simp [finel] at h2; exact .inr (.inr (.inr (.inr (.inl ⟨o, a, b, h3, h4, h2.1, h2.2, rfl⟩))))
  split at h1
  · subst_vars; simp at h1; obtain ⟨⟨⟨⟨⟨rfl, h3⟩, h4⟩, rfl⟩, rfl⟩, h⟩ := h1; obtain ⟨a, rfl⟩ := l1 h; simp [finel] at h2; exact .inr (.inr (.inr (.inr (.inr ⟨t, a, h3, h4, h2, rfl⟩))))
  · cases h1
theorem sz_pos (e : KE) : 1 ≤ sz e := by obtain ⟨k, o, t, n, v, l⟩ := e; simp only [sz]; omega
theorem ht_pos (e : KE) : 1 ≤ ht e := by obtain ⟨k, o, t, n, v, l⟩ := e; simp only [ht]; omega
theorem ne_bounds : ∀ (N : Nat) (e : KE), sz e ≤ N → fine e = true → 1 ≤ (ne e).regs ∧ (ne e).regs ≤ 3 ∧ 0 ≤ (ne e).temps ∧ (ne e).temps ≤ sz e
  | 0, e, h, _ => by have := sz_pos e; omega
  | N + 1, e, h, hf => by
    rcases fine_cases hf with ⟨n, rfl⟩ | ⟨v, h1, h2, rfl⟩ | ⟨v, a, h1, h2, h3, rfl⟩ | ⟨o, a, h1, h2, h3, rfl⟩ | ⟨o, a, b, h1, h2, h3, h4, rfl⟩ | ⟨t, a, h1, h2, h3, rfl⟩
    · simp [ne, nel, jn]
    · simp [ne, nel, jn]
    · simp only [sz, szl] at h
      have := ne_bounds N a (by omega) h3
      simp [ne, nel, jn, sz, szl, easyB]; omega
    · simp only [sz, szl] at h
      have := ne_bounds N a (by omega) h3
      simp only [ne, nel, jn, sz, szl]; refine ⟨?_, ?_, ?_, ?_⟩ <;> (try split) <;> omega
    · simp only [sz, szl] at h
      have := ne_bounds N a (by omega) h3
      have := ne_bounds N b (by omega) h4
      simp only [ne, nel, jn, sz, szl]; refine ⟨?_, ?_, ?_, ?_⟩ <;> (try split) <;> omega
    · simp only [sz, szl] at h
      have := ne_bounds N a (by omega) h3
      simp only [ne, nel, jn, sz, szl]; refine ⟨?_, ?_, ?_, ?_⟩ <;> (try split) <;> omega
theorem RK_p1 {h : GH} {k o t n v : Int} {a : KE} {cs : List Value} (hr : RK h ⟨k, o, t, n, v, [a]⟩ cs) :
    ∃ b off cap ca, cs = [.int .u8 k, .int .u8 o, .int .u8 t, .int .i32 n, .int .i64 v, .slice (some ⟨b, off, none⟩) 1 cap] ∧ atH h b off ca ∧ RK h a ca ∧ ca.length = 6 := by
  simp only [RK] at hr
  obtain ⟨_, a', cap, rfl, hcap, hl⟩ := hr
  obtain ⟨b, off, rfl, hq⟩ := hl (by simp)
  simp only [RKl] at hq
  obtain ⟨⟨ca, h1, h2⟩, _⟩ := hq
  exact ⟨b, off, cap, ca, rfl, h1, h2, h2.len⟩
theorem RK_p2 {h : GH} {k o t n v : Int} {a c : KE} {cs : List Value} (hr : RK h ⟨k, o, t, n, v, [a, c]⟩ cs) :
    ∃ b off cap ca cc, cs = [.int .u8 k, .int .u8 o, .int .u8 t, .int .i32 n, .int .i64 v, .slice (some ⟨b, off, none⟩) 2 cap] ∧ atH h b off ca ∧ RK h a ca ∧ ca.length = 6 ∧ atH h b (off + 6) cc ∧ RK h c cc ∧ cc.length = 6 := by
  simp only [RK] at hr
  obtain ⟨_, a', cap, rfl, hcap, hl⟩ := hr
  obtain ⟨b, off, rfl, hq⟩ := hl (by simp)
  simp only [RKl] at hq
  obtain ⟨⟨ca, h1, h2⟩, ⟨cc, h3, h4⟩, _⟩ := hq
  exact ⟨b, off, cap, ca, cc, rfl, h1, h2, h2.len, h3, h4, h4.len⟩
theorem RK_p0 {h : GH} {k o t n v : Int} {cs : List Value} (hr : RK h ⟨k, o, t, n, v, []⟩ cs) :
    ∃ a cap, cs = [.int .u8 k, .int .u8 o, .int .u8 t, .int .i32 n, .int .i64 v, .slice a 0 cap] := by
  simp only [RK] at hr
  obtain ⟨_, a', cap, rfl, hcap, hl⟩ := hr
  exact ⟨a', cap, rfl⟩
def spillB (o : Int) (a b : NR) : Bool := decide (o ≠ 20 ∧ o ≠ 21 ∧ a.regs = 3 ∧ b.regs = 3)
theorem safe_does (w0 : World) (h : GH) : ∀ (N : Nat) (e : KE) (cs : List Value) (L : List Ent), sz e ≤ N → fine e = true → RK h e cs → Does Tryz.prog w0 49 [.agg ⟨cs⟩] h L (Is (.bool (ne e).safe) h L)
  | 0, e, cs, L, hn, hf, hr => by have := sz_pos e; omega
  | N + 1, e, cs, L, hn, hf, hr => by
    have hr' := hr
    rcases fine_cases hf with ⟨n, rfl⟩ | ⟨v, h1, h2, rfl⟩ | ⟨v, a, h1, h2, h3, rfl⟩ | ⟨o, a, h1, h2, h3, rfl⟩ | ⟨o, a, b, h1, h2, h3, h4, rfl⟩ | ⟨t, a, h1, h2, h3, rfl⟩
    · (obtain ⟨a', cap, rfl⟩ := RK_p0 hr; refine Does.is (Does.of_V (cfg w0 49 Tryz.f49 20 (RIs (.bool _) h L) Tryz.func49) rfl rfl rfl rfl rfl rfl ?_); (repeat (first | refine V.step rfl ?_ | refine V.load rfl rfl rfl rfl rfl rfl ?_ | refine V.store rfl rfl rfl rfl rfl rfl rfl ?_ | refine V.condT rfl ?_ | refine V.condF rfl ?_)); refine V.box rfl rfl rfl rfl rfl rfl fun be => ?_; (repeat (first | refine V.step rfl ?_ | refine V.load rfl rfl rfl rfl rfl rfl ?_ | refine V.store rfl rfl rfl rfl rfl rfl rfl ?_ | refine V.condT rfl ?_ | refine V.condF rfl ?_)); refine V.loop1 ?_; (repeat (first | refine V.step rfl ?_ | refine V.load rfl rfl rfl rfl rfl rfl ?_ | refine V.store rfl rfl rfl rfl rfl rfl rfl ?_ | refine V.condT rfl ?_ | refine V.condF rfl ?_)); refine V.callIs rfl rfl rfl rfl rfl rfl (sure_does w0 h _ _ _ hr') ?_; (repeat (first | refine V.step rfl ?_ | refine V.load rfl rfl rfl rfl rfl rfl ?_ | refine V.store rfl rfl rfl rfl rfl rfl rfl ?_ | refine V.condT rfl ?_ | refine V.condF rfl ?_)); refine V.ret1 (L0 := []) rfl rfl rfl rfl rfl ⟨?_, GH.le_refl _, (by repeat (first | exact List.Sublist.refl _ | apply List.Sublist.cons))⟩; rfl)
    · (obtain ⟨a', cap, rfl⟩ := RK_p0 hr; refine Does.is (Does.of_V (cfg w0 49 Tryz.f49 20 (RIs (.bool _) h L) Tryz.func49) rfl rfl rfl rfl rfl rfl ?_); (repeat (first | refine V.step rfl ?_ | refine V.load rfl rfl rfl rfl rfl rfl ?_ | refine V.store rfl rfl rfl rfl rfl rfl rfl ?_ | refine V.condT rfl ?_ | refine V.condF rfl ?_)); refine V.box rfl rfl rfl rfl rfl rfl fun be => ?_; (repeat (first | refine V.step rfl ?_ | refine V.load rfl rfl rfl rfl rfl rfl ?_ | refine V.store rfl rfl rfl rfl rfl rfl rfl ?_ | refine V.condT rfl ?_ | refine V.condF rfl ?_)); refine V.loop1 ?_; (repeat (first | refine V.step rfl ?_ | refine V.load rfl rfl rfl rfl rfl rfl ?_ | refine V.store rfl rfl rfl rfl rfl rfl rfl ?_ | refine V.condT rfl ?_ | refine V.condF rfl ?_)); refine V.callIs rfl rfl rfl rfl rfl rfl (sure_does w0 h _ _ _ hr') ?_; (repeat (first | refine V.step rfl ?_ | refine V.load rfl rfl rfl rfl rfl rfl ?_ | refine V.store rfl rfl rfl rfl rfl rfl rfl ?_ | refine V.condT rfl ?_ | refine V.condF rfl ?_)); refine V.ret1 (L0 := []) rfl rfl rfl rfl rfl ⟨?_, GH.le_refl _, (by repeat (first | exact List.Sublist.refl _ | apply List.Sublist.cons))⟩; rfl)
    · (obtain ⟨b, off, cap, ca, rfl, g1, g2, g3⟩ := RK_p1 hr; simp only [sz, szl] at hn; refine Does.is (Does.of_V (cfg w0 49 Tryz.f49 20 (RIs (.bool _) h L) Tryz.func49) rfl rfl rfl rfl rfl rfl ?_); (repeat (first | refine V.step rfl ?_ | refine V.load rfl rfl rfl rfl rfl rfl ?_ | refine V.store rfl rfl rfl rfl rfl rfl rfl ?_ | refine V.condT rfl ?_ | refine V.condF rfl ?_)); refine V.box rfl rfl rfl rfl rfl rfl fun be => ?_; (repeat (first | refine V.step rfl ?_ | refine V.load rfl rfl rfl rfl rfl rfl ?_ | refine V.store rfl rfl rfl rfl rfl rfl rfl ?_ | refine V.condT rfl ?_ | refine V.condF rfl ?_)); refine V.loop1 ?_; (repeat (first | refine V.step rfl ?_ | refine V.load rfl rfl rfl rfl rfl rfl ?_ | refine V.store rfl rfl rfl rfl rfl rfl rfl ?_ | refine V.condT rfl ?_ | refine V.condF rfl ?_)); refine V.index rfl rfl rfl rfl rfl rfl (by decide) (by decide) ?_; refine V.loadHA rfl rfl rfl rfl rfl g1 g3 rfl ?_; refine V.callIs rfl rfl rfl rfl rfl rfl (safe_does w0 h N a ca _ (by omega) h3 g2) ?_; (repeat (first | refine V.step rfl ?_ | refine V.load rfl rfl rfl rfl rfl rfl ?_ | refine V.store rfl rfl rfl rfl rfl rfl rfl ?_ | refine V.condT rfl ?_ | refine V.condF rfl ?_)); refine V.cond rfl (fun hc => (by (repeat (first | refine V.step rfl ?_ | refine V.load rfl rfl rfl rfl rfl rfl ?_ | refine V.store rfl rfl rfl rfl rfl rfl rfl ?_ | refine V.condT rfl ?_ | refine V.condF rfl ?_)); refine V.ret1 (L0 := []) rfl rfl rfl rfl rfl ⟨?_, GH.le_refl _, (by repeat (first | exact List.Sublist.refl _ | apply List.Sublist.cons))⟩; (simp at hc); simp [ne, nel, jn, hc])) (fun hc => (by (repeat (first | refine V.step rfl ?_ | refine V.load rfl rfl rfl rfl rfl rfl ?_ | refine V.store rfl rfl rfl rfl rfl rfl rfl ?_ | refine V.condT rfl ?_ | refine V.condF rfl ?_)); refine V.again ?_; (repeat (first | refine V.step rfl ?_ | refine V.load rfl rfl rfl rfl rfl rfl ?_ | refine V.store rfl rfl rfl rfl rfl rfl rfl ?_ | refine V.condT rfl ?_ | refine V.condF rfl ?_)); refine V.callIs rfl rfl rfl rfl rfl rfl (sure_does w0 h _ _ _ hr') ?_; (repeat (first | refine V.step rfl ?_ | refine V.load rfl rfl rfl rfl rfl rfl ?_ | refine V.store rfl rfl rfl rfl rfl rfl rfl ?_ | refine V.condT rfl ?_ | refine V.condF rfl ?_)); refine V.ret1 (L0 := []) rfl rfl rfl rfl rfl ⟨?_, GH.le_refl _, (by repeat (first | exact List.Sublist.refl _ | apply List.Sublist.cons))⟩; (simp at hc); simp [ne, nel, jn, hc, sureB, KE.kind, KE.oper, KE.to, KE.n, KE.v, KE.l])))
    · (obtain ⟨b, off, cap, ca, rfl, g1, g2, g3⟩ := RK_p1 hr; simp only [sz, szl] at hn; refine Does.is (Does.of_V (cfg w0 49 Tryz.f49 20 (RIs (.bool _) h L) Tryz.func49) rfl rfl rfl rfl rfl rfl ?_); (repeat (first | refine V.step rfl ?_ | refine V.load rfl rfl rfl rfl rfl rfl ?_ | refine V.store rfl rfl rfl rfl rfl rfl rfl ?_ | refine V.condT rfl ?_ | refine V.condF rfl ?_)); refine V.box rfl rfl rfl rfl rfl rfl fun be => ?_; (repeat (first | refine V.step rfl ?_ | refine V.load rfl rfl rfl rfl rfl rfl ?_ | refine V.store rfl rfl rfl rfl rfl rfl rfl ?_ | refine V.condT rfl ?_ | refine V.condF rfl ?_)); refine V.loop1 ?_; (repeat (first | refine V.step rfl ?_ | refine V.load rfl rfl rfl rfl rfl rfl ?_ | refine V.store rfl rfl rfl rfl rfl rfl rfl ?_ | refine V.condT rfl ?_ | refine V.condF rfl ?_)); refine V.index rfl rfl rfl rfl rfl rfl (by decide) (by decide) ?_; refine V.loadHA rfl rfl rfl rfl rfl g1 g3 rfl ?_; refine V.callIs rfl rfl rfl rfl rfl rfl (safe_does w0 h N a ca _ (by omega) h3 g2) ?_; (repeat (first | refine V.step rfl ?_ | refine V.load rfl rfl rfl rfl rfl rfl ?_ | refine V.store rfl rfl rfl rfl rfl rfl rfl ?_ | refine V.condT rfl ?_ | refine V.condF rfl ?_)); refine V.cond rfl (fun hc => (by (repeat (first | refine V.step rfl ?_ | refine V.load rfl rfl rfl rfl rfl rfl ?_ | refine V.store rfl rfl rfl rfl rfl rfl rfl ?_ | refine V.condT rfl ?_ | refine V.condF rfl ?_)); refine V.ret1 (L0 := []) rfl rfl rfl rfl rfl ⟨?_, GH.le_refl _, (by repeat (first | exact List.Sublist.refl _ | apply List.Sublist.cons))⟩; (simp at hc); simp [ne, nel, jn, hc])) (fun hc => (by (repeat (first | refine V.step rfl ?_ | refine V.load rfl rfl rfl rfl rfl rfl ?_ | refine V.store rfl rfl rfl rfl rfl rfl rfl ?_ | refine V.condT rfl ?_ | refine V.condF rfl ?_)); refine V.again ?_; (repeat (first | refine V.step rfl ?_ | refine V.load rfl rfl rfl rfl rfl rfl ?_ | refine V.store rfl rfl rfl rfl rfl rfl rfl ?_ | refine V.condT rfl ?_ | refine V.condF rfl ?_)); refine V.callIs rfl rfl rfl rfl rfl rfl (sure_does w0 h _ _ _ hr') ?_; (repeat (first | refine V.step rfl ?_ | refine V.load rfl rfl rfl rfl rfl rfl ?_ | refine V.store rfl rfl rfl rfl rfl rfl rfl ?_ | refine V.condT rfl ?_ | refine V.condF rfl ?_)); refine V.ret1 (L0 := []) rfl rfl rfl rfl rfl ⟨?_, GH.le_refl _, (by repeat (first | exact List.Sublist.refl _ | apply List.Sublist.cons))⟩; (simp at hc); simp [ne, nel, jn, hc, sureB, KE.kind, KE.oper, KE.to, KE.n, KE.v, KE.l])))
    · obtain ⟨b', off, cap, ca, cb, rfl, g1, g2, g3, g4, g5, g6⟩ := RK_p2 hr
      simp only [sz, szl] at hn
      refine Does.is (Does.of_V (cfg w0 49 Tryz.f49 20 (RIs (.bool _) h L) Tryz.func49) rfl rfl rfl rfl rfl rfl ?_); (repeat (first | refine V.step rfl ?_ | refine V.load rfl rfl rfl rfl rfl rfl ?_ | refine V.store rfl rfl rfl rfl rfl rfl rfl ?_ | refine V.condT rfl ?_ | refine V.condF rfl ?_)); refine V.box rfl rfl rfl rfl rfl rfl fun be => ?_; (repeat (first | refine V.step rfl ?_ | refine V.load rfl rfl rfl rfl rfl rfl ?_ | refine V.store rfl rfl rfl rfl rfl rfl rfl ?_ | refine V.condT rfl ?_ | refine V.condF rfl ?_)); refine V.loop1 ?_; (repeat (first | refine V.step rfl ?_ | refine V.load rfl rfl rfl rfl rfl rfl ?_ | refine V.store rfl rfl rfl rfl rfl rfl rfl ?_ | refine V.condT rfl ?_ | refine V.condF rfl ?_)); refine V.index rfl rfl rfl rfl rfl rfl (by decide) (by decide) ?_; refine V.loadHA rfl rfl rfl rfl rfl g1 g3 rfl ?_; refine V.callIs rfl rfl rfl rfl rfl rfl (safe_does w0 h N a ca _ (by omega) h3 g2) ?_; (repeat (first | refine V.step rfl ?_ | refine V.load rfl rfl rfl rfl rfl rfl ?_ | refine V.store rfl rfl rfl rfl rfl rfl rfl ?_ | refine V.condT rfl ?_ | refine V.condF rfl ?_))
      refine V.cond rfl (fun hc => ?_) (fun hc => ?_)
      · (repeat (first | refine V.step rfl ?_ | refine V.load rfl rfl rfl rfl rfl rfl ?_ | refine V.store rfl rfl rfl rfl rfl rfl rfl ?_ | refine V.condT rfl ?_ | refine V.condF rfl ?_)); refine V.ret1 (L0 := []) rfl rfl rfl rfl rfl ⟨?_, GH.le_refl _, (by repeat (first | exact List.Sublist.refl _ | apply List.Sublist.cons))⟩; (simp at hc); simp [ne, nel, jn, hc]
      · (repeat (first | refine V.step rfl ?_ | refine V.load rfl rfl rfl rfl rfl rfl ?_ | refine V.store rfl rfl rfl rfl rfl rfl rfl ?_ | refine V.condT rfl ?_ | refine V.condF rfl ?_)); refine V.again ?_; (repeat (first | refine V.step rfl ?_ | refine V.load rfl rfl rfl rfl rfl rfl ?_ | refine V.store rfl rfl rfl rfl rfl rfl rfl ?_ | refine V.condT rfl ?_ | refine V.condF rfl ?_)); refine V.index rfl rfl rfl rfl rfl rfl (by decide) (by decide) ?_; refine V.loadHA rfl rfl rfl rfl rfl g4 g6 rfl ?_; refine V.callIs rfl rfl rfl rfl rfl rfl (safe_does w0 h N b cb _ (by omega) h4 g5) ?_; (repeat (first | refine V.step rfl ?_ | refine V.load rfl rfl rfl rfl rfl rfl ?_ | refine V.store rfl rfl rfl rfl rfl rfl rfl ?_ | refine V.condT rfl ?_ | refine V.condF rfl ?_))
        refine V.cond rfl (fun hd => ?_) (fun hd => ?_)
        · (repeat (first | refine V.step rfl ?_ | refine V.load rfl rfl rfl rfl rfl rfl ?_ | refine V.store rfl rfl rfl rfl rfl rfl rfl ?_ | refine V.condT rfl ?_ | refine V.condF rfl ?_)); refine V.ret1 (L0 := []) rfl rfl rfl rfl rfl ⟨?_, GH.le_refl _, (by repeat (first | exact List.Sublist.refl _ | apply List.Sublist.cons))⟩; (simp at hc hd); simp [ne, nel, jn, hc, hd]
        · (repeat (first | refine V.step rfl ?_ | refine V.load rfl rfl rfl rfl rfl rfl ?_ | refine V.store rfl rfl rfl rfl rfl rfl rfl ?_ | refine V.condT rfl ?_ | refine V.condF rfl ?_)); refine V.again ?_; (repeat (first | refine V.step rfl ?_ | refine V.load rfl rfl rfl rfl rfl rfl ?_ | refine V.store rfl rfl rfl rfl rfl rfl rfl ?_ | refine V.condT rfl ?_ | refine V.condF rfl ?_)); refine V.callIs rfl rfl rfl rfl rfl rfl (sure_does w0 h _ _ _ hr') ?_; (repeat (first | refine V.step rfl ?_ | refine V.load rfl rfl rfl rfl rfl rfl ?_ | refine V.store rfl rfl rfl rfl rfl rfl rfl ?_ | refine V.condT rfl ?_ | refine V.condF rfl ?_)); refine V.ret1 (L0 := []) rfl rfl rfl rfl rfl ⟨?_, GH.le_refl _, (by repeat (first | exact List.Sublist.refl _ | apply List.Sublist.cons))⟩; (simp at hc hd); simp [ne, nel, jn, hc, hd, sureB, KE.kind, KE.oper, KE.to, KE.n, KE.v, KE.l]
    · (obtain ⟨b, off, cap, ca, rfl, g1, g2, g3⟩ := RK_p1 hr; simp only [sz, szl] at hn; refine Does.is (Does.of_V (cfg w0 49 Tryz.f49 20 (RIs (.bool _) h L) Tryz.func49) rfl rfl rfl rfl rfl rfl ?_); (repeat (first | refine V.step rfl ?_ | refine V.load rfl rfl rfl rfl rfl rfl ?_ | refine V.store rfl rfl rfl rfl rfl rfl rfl ?_ | refine V.condT rfl ?_ | refine V.condF rfl ?_)); refine V.box rfl rfl rfl rfl rfl rfl fun be => ?_; (repeat (first | refine V.step rfl ?_ | refine V.load rfl rfl rfl rfl rfl rfl ?_ | refine V.store rfl rfl rfl rfl rfl rfl rfl ?_ | refine V.condT rfl ?_ | refine V.condF rfl ?_)); refine V.loop1 ?_; (repeat (first | refine V.step rfl ?_ | refine V.load rfl rfl rfl rfl rfl rfl ?_ | refine V.store rfl rfl rfl rfl rfl rfl rfl ?_ | refine V.condT rfl ?_ | refine V.condF rfl ?_)); refine V.index rfl rfl rfl rfl rfl rfl (by decide) (by decide) ?_; refine V.loadHA rfl rfl rfl rfl rfl g1 g3 rfl ?_; refine V.callIs rfl rfl rfl rfl rfl rfl (safe_does w0 h N a ca _ (by omega) h3 g2) ?_; (repeat (first | refine V.step rfl ?_ | refine V.load rfl rfl rfl rfl rfl rfl ?_ | refine V.store rfl rfl rfl rfl rfl rfl rfl ?_ | refine V.condT rfl ?_ | refine V.condF rfl ?_)); refine V.cond rfl (fun hc => (by (repeat (first | refine V.step rfl ?_ | refine V.load rfl rfl rfl rfl rfl rfl ?_ | refine V.store rfl rfl rfl rfl rfl rfl rfl ?_ | refine V.condT rfl ?_ | refine V.condF rfl ?_)); refine V.ret1 (L0 := []) rfl rfl rfl rfl rfl ⟨?_, GH.le_refl _, (by repeat (first | exact List.Sublist.refl _ | apply List.Sublist.cons))⟩; (simp at hc); simp [ne, nel, jn, hc])) (fun hc => (by (repeat (first | refine V.step rfl ?_ | refine V.load rfl rfl rfl rfl rfl rfl ?_ | refine V.store rfl rfl rfl rfl rfl rfl rfl ?_ | refine V.condT rfl ?_ | refine V.condF rfl ?_)); refine V.again ?_; (repeat (first | refine V.step rfl ?_ | refine V.load rfl rfl rfl rfl rfl rfl ?_ | refine V.store rfl rfl rfl rfl rfl rfl rfl ?_ | refine V.condT rfl ?_ | refine V.condF rfl ?_)); refine V.callIs rfl rfl rfl rfl rfl rfl (sure_does w0 h _ _ _ hr') ?_; (repeat (first | refine V.step rfl ?_ | refine V.load rfl rfl rfl rfl rfl rfl ?_ | refine V.store rfl rfl rfl rfl rfl rfl rfl ?_ | refine V.condT rfl ?_ | refine V.condF rfl ?_)); refine V.ret1 (L0 := []) rfl rfl rfl rfl rfl ⟨?_, GH.le_refl _, (by repeat (first | exact List.Sublist.refl _ | apply List.Sublist.cons))⟩; (simp at hc); simp [ne, nel, jn, hc, sureB, KE.kind, KE.oper, KE.to, KE.n, KE.v, KE.l])))
def fits (e : KE) (room deep : Int) : Prop := fine e = true ∧ (sz e : Int) ≤ room ∧ (ht e : Int) ≤ deep
instance (e : KE) (room deep : Int) : Decidable (fits e room deep) := by unfold fits; infer_instance
def lookI (e : KE) (room deep : Int) : Int := if fits e room deep then sz e else -1
theorem look_yes {e : KE} {r d : Int} (h : fits e r d) : lookI e r d = sz e := if_pos h
theorem look_no {e : KE} {r d : Int} (h : ¬ fits e r d) : lookI e r d = -1 := if_neg h
theorem fits_not {e : KE} {r d : Int} (h : r < 1 ∨ d < 1 ∨ shapeB e = false) : ¬ fits e r d := by
  rintro ⟨h1, h2, h3⟩
  have := sz_pos e
  have := ht_pos e
  rcases h with h | h | h
  · omega
  · omega
  · obtain ⟨k, o, t, n, v, l⟩ := e
    simp only [fine, h, Bool.false_and] at h1
    cases h1
theorem shape_cases {e : KE} (h : shapeB e = true) : (∃ k o t n v, e = ⟨k, o, t, n, v, []⟩) ∨ (∃ k o t n v a, e = ⟨k, o, t, n, v, [a]⟩) ∨ (∃ k o t n v a b, e = ⟨k, o, t, n, v, [a, b]⟩) := by
  obtain ⟨k, o, t, n, v, l⟩ := e
  match l with
  | [] => exact .inl ⟨k, o, t, n, v, rfl⟩
  | [a] => exact .inr (.inl ⟨k, o, t, n, v, a, rfl⟩)
  | [a, b] => exact .inr (.inr ⟨k, o, t, n, v, a, b, rfl⟩)
  | a :: b :: c :: r =>
    simp only [shapeB, KE.kind, KE.oper, KE.to, KE.n, KE.v, KE.l, List.length_cons] at h
    exfalso
    revert h
    (repeat' split) <;> simp <;> omega
theorem lookI_neg {e : KE} {r d : Int} : lookI e r d < 0 ↔ ¬ fits e r d := by
  unfold lookI; split
  · rename_i h; constructor
    · intro hh; have := sz_pos e; omega
    · intro hh; exact (hh h).elim
  · rename_i h; exact ⟨fun _ => h, fun _ => by decide⟩
theorem fits1 {k o t n v : Int} {a : KE} {room deep : Int} (hs : shapeB ⟨k, o, t, n, v, [a]⟩ = true) : fits ⟨k, o, t, n, v, [a]⟩ room deep ↔ fits a (room - 1) (deep - 1) := by
  simp only [fits, fine, finel, hs, sz, szl, ht, htl, Bool.true_and, Bool.and_true]
  constructor
  · rintro ⟨h1, h2, h3⟩; exact ⟨h1, by omega, by omega⟩
  · rintro ⟨h1, h2, h3⟩; exact ⟨h1, by omega, by omega⟩
theorem fits2 {k o t n v : Int} {a b : KE} {room deep : Int} (hs : shapeB ⟨k, o, t, n, v, [a, b]⟩ = true) : fits ⟨k, o, t, n, v, [a, b]⟩ room deep ↔ fits a (room - 1) (deep - 1) ∧ fits b (room - (1 + sz a)) (deep - 1) := by
  simp only [fits, fine, finel, hs, sz, szl, ht, htl, Bool.true_and, Bool.and_true, Bool.and_eq_true]
  have := sz_pos b
  constructor
  · rintro ⟨h1, h2, h3⟩; exact ⟨⟨h1.1, by omega, by omega⟩, ⟨h1.2, by omega, by omega⟩⟩
  · rintro ⟨⟨h1, h2, h3⟩, ⟨h4, h5, h6⟩⟩; exact ⟨⟨h1, h4⟩, by omega, by omega⟩
theorem look_does (w0 : World) (h : GH) : ∀ (N : Nat) (e : KE) (cs : List Value) (L : List Ent) (room deep : Int), sz e ≤ N → 0 ≤ room → room ≤ 1000000 → 0 ≤ deep → deep ≤ 1000000 → RK h e cs →
    Does Tryz.prog w0 70 [.agg ⟨cs⟩, .int .i64 room, .int .i64 deep] h L (Is (.int .i64 (lookI e room deep)) h L)
  | 0, e, cs, L, room, deep, hn, _, _, _, _, hr => by have := sz_pos e; omega
  | N + 1, e, cs, L, room, deep, hn, r0, r1, d0, d1, hr => by
    have hr' := hr
    by_cases hs : shapeB e = true
    · rcases shape_cases hs with ⟨k, o, t, n, v, rfl⟩ | ⟨k, o, t, n, v, a, rfl⟩ | ⟨k, o, t, n, v, a, b, rfl⟩
      · obtain ⟨a', cap, rfl⟩ := RK_p0 hr
        refine Does.is (Does.of_V (cfg w0 70 Tryz.f70 45 (RIs (.int .i64 _) h L) Tryz.func70) rfl rfl rfl rfl rfl rfl ?_); (repeat (first | refine V.step rfl ?_ | refine V.load rfl rfl rfl rfl rfl rfl ?_ | refine V.store rfl rfl rfl rfl rfl rfl rfl ?_ | refine V.condT rfl ?_ | refine V.condF rfl ?_)); refine V.box rfl rfl rfl rfl rfl rfl fun be => ?_; (repeat (first | refine V.step rfl ?_ | refine V.load rfl rfl rfl rfl rfl rfl ?_ | refine V.store rfl rfl rfl rfl rfl rfl rfl ?_ | refine V.condT rfl ?_ | refine V.condF rfl ?_))
        refine V.split 16 rfl (fun hc => (by simp at hc; (repeat (first | refine V.step rfl ?_ | refine V.load rfl rfl rfl rfl rfl rfl ?_ | refine V.store rfl rfl rfl rfl rfl rfl rfl ?_ | refine V.condT rfl ?_ | refine V.condF rfl ?_ | refine V.skip rfl rfl ?_ | refine V.pickT rfl rfl rfl rfl rfl ?_ | refine V.pickF rfl rfl rfl rfl rfl ?_)); refine V.ret1 (L0 := []) rfl rfl rfl rfl rfl ⟨?_, GH.le_refl _, (by repeat (first | exact List.Sublist.refl _ | apply List.Sublist.cons))⟩; rw [look_no (fits_not (by omega))])) (fun hc => ?_); (simp at hc)
        · (repeat (first | refine V.step rfl ?_ | refine V.load rfl rfl rfl rfl rfl rfl ?_ | refine V.store rfl rfl rfl rfl rfl rfl rfl ?_ | refine V.condT rfl ?_ | refine V.condF rfl ?_)); refine V.callIs rfl rfl rfl rfl rfl rfl (shape_does w0 h _ _ _ hr') ?_; (repeat (first | refine V.step rfl ?_ | refine V.load rfl rfl rfl rfl rfl rfl ?_ | refine V.store rfl rfl rfl rfl rfl rfl rfl ?_ | refine V.condT rfl ?_ | refine V.condF rfl ?_)); refine V.cond rfl (fun hd => (by simp [hs] at hd)) (fun hd => ?_); (repeat (first | refine V.step rfl ?_ | refine V.load rfl rfl rfl rfl rfl rfl ?_ | refine V.store rfl rfl rfl rfl rfl rfl rfl ?_ | refine V.condT rfl ?_ | refine V.condF rfl ?_)); refine V.loop1 ?_; (repeat (first | refine V.step rfl ?_ | refine V.load rfl rfl rfl rfl rfl rfl ?_ | refine V.store rfl rfl rfl rfl rfl rfl rfl ?_ | refine V.condT rfl ?_ | refine V.condF rfl ?_))
          refine V.ret1 (L0 := []) rfl rfl rfl rfl rfl ⟨?_, GH.le_refl _, (by repeat (first | exact List.Sublist.refl _ | apply List.Sublist.cons))⟩
          rw [look_yes ⟨by simp [fine, finel, hs], by simp [sz, szl]; omega, by simp [ht, htl]; omega⟩]; simp [sz, szl]
      · obtain ⟨b, off, cap, ca, rfl, g1, g2, g3⟩ := RK_p1 hr
        simp only [sz, szl] at hn
        have hsub : IntKind.i64.wrap (room - 1) = room - 1 := wr64 _ (by omega)
        have hsubd : IntKind.i64.wrap (deep - 1) = deep - 1 := wr64 _ (by omega)
        refine Does.is (Does.of_V (cfg w0 70 Tryz.f70 45 (RIs (.int .i64 _) h L) Tryz.func70) rfl rfl rfl rfl rfl rfl ?_); (repeat (first | refine V.step rfl ?_ | refine V.load rfl rfl rfl rfl rfl rfl ?_ | refine V.store rfl rfl rfl rfl rfl rfl rfl ?_ | refine V.condT rfl ?_ | refine V.condF rfl ?_)); refine V.box rfl rfl rfl rfl rfl rfl fun be => ?_; (repeat (first | refine V.step rfl ?_ | refine V.load rfl rfl rfl rfl rfl rfl ?_ | refine V.store rfl rfl rfl rfl rfl rfl rfl ?_ | refine V.condT rfl ?_ | refine V.condF rfl ?_))
        refine V.split 16 rfl (fun hc => (by simp at hc; (repeat (first | refine V.step rfl ?_ | refine V.load rfl rfl rfl rfl rfl rfl ?_ | refine V.store rfl rfl rfl rfl rfl rfl rfl ?_ | refine V.condT rfl ?_ | refine V.condF rfl ?_ | refine V.skip rfl rfl ?_ | refine V.pickT rfl rfl rfl rfl rfl ?_ | refine V.pickF rfl rfl rfl rfl rfl ?_)); refine V.ret1 (L0 := []) rfl rfl rfl rfl rfl ⟨?_, GH.le_refl _, (by repeat (first | exact List.Sublist.refl _ | apply List.Sublist.cons))⟩; rw [look_no (fits_not (by omega))])) (fun hc => ?_); (simp at hc)
        · (repeat (first | refine V.step rfl ?_ | refine V.load rfl rfl rfl rfl rfl rfl ?_ | refine V.store rfl rfl rfl rfl rfl rfl rfl ?_ | refine V.condT rfl ?_ | refine V.condF rfl ?_)); refine V.callIs rfl rfl rfl rfl rfl rfl (shape_does w0 h _ _ _ hr') ?_; (repeat (first | refine V.step rfl ?_ | refine V.load rfl rfl rfl rfl rfl rfl ?_ | refine V.store rfl rfl rfl rfl rfl rfl rfl ?_ | refine V.condT rfl ?_ | refine V.condF rfl ?_)); refine V.cond rfl (fun hd => (by simp [hs] at hd)) (fun hd => ?_); (repeat (first | refine V.step rfl ?_ | refine V.load rfl rfl rfl rfl rfl rfl ?_ | refine V.store rfl rfl rfl rfl rfl rfl rfl ?_ | refine V.condT rfl ?_ | refine V.condF rfl ?_)); refine V.loop1 ?_; (repeat (first | refine V.step rfl ?_ | refine V.load rfl rfl rfl rfl rfl rfl ?_ | refine V.store rfl rfl rfl rfl rfl rfl rfl ?_ | refine V.condT rfl ?_ | refine V.condF rfl ?_))
          refine V.index rfl rfl rfl rfl rfl rfl (by decide) (by decide) ?_; refine V.loadHA rfl rfl rfl rfl rfl g1 g3 rfl ?_; (repeat (first | refine V.step rfl ?_ | refine V.load rfl rfl rfl rfl rfl rfl ?_ | refine V.store rfl rfl rfl rfl rfl rfl rfl ?_ | refine V.condT rfl ?_ | refine V.condF rfl ?_))
          refine V.val 35 rfl (int64_eq (wr64 (room - 1) (by omega))) ?_; refine V.val 37 rfl (int64_eq (wr64 (deep - 1) (by omega))) ?_
          refine V.callIs rfl rfl rfl rfl rfl rfl (look_does w0 h N a ca _ (room - 1) (deep - 1) (by omega) (by omega) (by omega) (by omega) (by omega) g2) ?_; (repeat (first | refine V.step rfl ?_ | refine V.load rfl rfl rfl rfl rfl rfl ?_ | refine V.store rfl rfl rfl rfl rfl rfl rfl ?_ | refine V.condT rfl ?_ | refine V.condF rfl ?_))
          refine V.cond rfl (fun he => ?_) (fun he => ?_)
          · simp [lookI_neg] at he; (repeat (first | refine V.step rfl ?_ | refine V.load rfl rfl rfl rfl rfl rfl ?_ | refine V.store rfl rfl rfl rfl rfl rfl rfl ?_ | refine V.condT rfl ?_ | refine V.condF rfl ?_)); refine V.ret1 (L0 := []) rfl rfl rfl rfl rfl ⟨?_, GH.le_refl _, (by repeat (first | exact List.Sublist.refl _ | apply List.Sublist.cons))⟩; rw [look_no (fun hh => he ((fits1 hs).1 hh))]
          · simp [lookI_neg] at he; (repeat (first | refine V.step rfl ?_ | refine V.load rfl rfl rfl rfl rfl rfl ?_ | refine V.store rfl rfl rfl rfl rfl rfl rfl ?_ | refine V.condT rfl ?_ | refine V.condF rfl ?_)); refine V.again ?_; (repeat (first | refine V.step rfl ?_ | refine V.load rfl rfl rfl rfl rfl rfl ?_ | refine V.store rfl rfl rfl rfl rfl rfl rfl ?_ | refine V.condT rfl ?_ | refine V.condF rfl ?_)); refine V.ret1 (L0 := []) rfl rfl rfl rfl rfl ⟨?_, GH.le_refl _, (by repeat (first | exact List.Sublist.refl _ | apply List.Sublist.cons))⟩; rw [look_yes he, look_yes ((fits1 hs).2 he)]; refine int64_eq ?_; have := he.2.1; rw [wr64 _ (by omega)]; simp [sz, szl]
      · obtain ⟨b', off, cap, ca, cb, rfl, g1, g2, g3, g4, g5, g6⟩ := RK_p2 hr
        simp only [sz, szl] at hn
        refine Does.is (Does.of_V (cfg w0 70 Tryz.f70 45 (RIs (.int .i64 _) h L) Tryz.func70) rfl rfl rfl rfl rfl rfl ?_); (repeat (first | refine V.step rfl ?_ | refine V.load rfl rfl rfl rfl rfl rfl ?_ | refine V.store rfl rfl rfl rfl rfl rfl rfl ?_ | refine V.condT rfl ?_ | refine V.condF rfl ?_)); refine V.box rfl rfl rfl rfl rfl rfl fun be => ?_; (repeat (first | refine V.step rfl ?_ | refine V.load rfl rfl rfl rfl rfl rfl ?_ | refine V.store rfl rfl rfl rfl rfl rfl rfl ?_ | refine V.condT rfl ?_ | refine V.condF rfl ?_))
        refine V.split 16 rfl (fun hc => (by simp at hc; (repeat (first | refine V.step rfl ?_ | refine V.load rfl rfl rfl rfl rfl rfl ?_ | refine V.store rfl rfl rfl rfl rfl rfl rfl ?_ | refine V.condT rfl ?_ | refine V.condF rfl ?_ | refine V.skip rfl rfl ?_ | refine V.pickT rfl rfl rfl rfl rfl ?_ | refine V.pickF rfl rfl rfl rfl rfl ?_)); refine V.ret1 (L0 := []) rfl rfl rfl rfl rfl ⟨?_, GH.le_refl _, (by repeat (first | exact List.Sublist.refl _ | apply List.Sublist.cons))⟩; rw [look_no (fits_not (by omega))])) (fun hc => ?_); (simp at hc)
        · (repeat (first | refine V.step rfl ?_ | refine V.load rfl rfl rfl rfl rfl rfl ?_ | refine V.store rfl rfl rfl rfl rfl rfl rfl ?_ | refine V.condT rfl ?_ | refine V.condF rfl ?_)); refine V.callIs rfl rfl rfl rfl rfl rfl (shape_does w0 h _ _ _ hr') ?_; (repeat (first | refine V.step rfl ?_ | refine V.load rfl rfl rfl rfl rfl rfl ?_ | refine V.store rfl rfl rfl rfl rfl rfl rfl ?_ | refine V.condT rfl ?_ | refine V.condF rfl ?_)); refine V.cond rfl (fun hd => (by simp [hs] at hd)) (fun hd => ?_); (repeat (first | refine V.step rfl ?_ | refine V.load rfl rfl rfl rfl rfl rfl ?_ | refine V.store rfl rfl rfl rfl rfl rfl rfl ?_ | refine V.condT rfl ?_ | refine V.condF rfl ?_)); refine V.loop1 ?_; (repeat (first | refine V.step rfl ?_ | refine V.load rfl rfl rfl rfl rfl rfl ?_ | refine V.store rfl rfl rfl rfl rfl rfl rfl ?_ | refine V.condT rfl ?_ | refine V.condF rfl ?_))
          refine V.index rfl rfl rfl rfl rfl rfl (by decide) (by decide) ?_; refine V.loadHA rfl rfl rfl rfl rfl g1 g3 rfl ?_; (repeat (first | refine V.step rfl ?_ | refine V.load rfl rfl rfl rfl rfl rfl ?_ | refine V.store rfl rfl rfl rfl rfl rfl rfl ?_ | refine V.condT rfl ?_ | refine V.condF rfl ?_))
          refine V.val 35 rfl (int64_eq (wr64 (room - 1) (by omega))) ?_; refine V.val 37 rfl (int64_eq (wr64 (deep - 1) (by omega))) ?_
          refine V.callIs rfl rfl rfl rfl rfl rfl (look_does w0 h N a ca _ (room - 1) (deep - 1) (by omega) (by omega) (by omega) (by omega) (by omega) g2) ?_; (repeat (first | refine V.step rfl ?_ | refine V.load rfl rfl rfl rfl rfl rfl ?_ | refine V.store rfl rfl rfl rfl rfl rfl rfl ?_ | refine V.condT rfl ?_ | refine V.condF rfl ?_))
          refine V.cond rfl (fun he => ?_) (fun he => ?_)
          · simp [lookI_neg] at he; (repeat (first | refine V.step rfl ?_ | refine V.load rfl rfl rfl rfl rfl rfl ?_ | refine V.store rfl rfl rfl rfl rfl rfl rfl ?_ | refine V.condT rfl ?_ | refine V.condF rfl ?_)); refine V.ret1 (L0 := []) rfl rfl rfl rfl rfl ⟨?_, GH.le_refl _, (by repeat (first | exact List.Sublist.refl _ | apply List.Sublist.cons))⟩; rw [look_no (fun hh => he ((fits2 hs).1 hh).1)]
          · simp [lookI_neg] at he
            have hea := he.2.1
            refine V.val 9 rfl (int64_eq (look_yes he)) ?_
            (repeat (first | refine V.step rfl ?_ | refine V.load rfl rfl rfl rfl rfl rfl ?_ | refine V.store rfl rfl rfl rfl rfl rfl rfl ?_ | refine V.condT rfl ?_ | refine V.condF rfl ?_)); refine V.val 7 rfl (int64_eq (wr64 (1 + sz a) (by omega))) ?_
            refine V.again ?_; (repeat (first | refine V.step rfl ?_ | refine V.load rfl rfl rfl rfl rfl rfl ?_ | refine V.store rfl rfl rfl rfl rfl rfl rfl ?_ | refine V.condT rfl ?_ | refine V.condF rfl ?_)); refine V.index rfl rfl rfl rfl rfl rfl (by decide) (by decide) ?_; refine V.loadHA rfl rfl rfl rfl rfl g4 g6 rfl ?_; (repeat (first | refine V.step rfl ?_ | refine V.load rfl rfl rfl rfl rfl rfl ?_ | refine V.store rfl rfl rfl rfl rfl rfl rfl ?_ | refine V.condT rfl ?_ | refine V.condF rfl ?_))
            refine V.val 35 rfl (int64_eq (wr64 (room - (1 + sz a)) (by omega))) ?_; refine V.val 37 rfl (int64_eq (wr64 (deep - 1) (by omega))) ?_
            refine V.callIs rfl rfl rfl rfl rfl rfl (look_does w0 h N b cb _ (room - (1 + sz a)) (deep - 1) (by omega) (by omega) (by omega) (by omega) (by omega) g5) ?_; (repeat (first | refine V.step rfl ?_ | refine V.load rfl rfl rfl rfl rfl rfl ?_ | refine V.store rfl rfl rfl rfl rfl rfl rfl ?_ | refine V.condT rfl ?_ | refine V.condF rfl ?_))
            refine V.cond rfl (fun hf => ?_) (fun hf => ?_)
            · simp [lookI_neg] at hf; (repeat (first | refine V.step rfl ?_ | refine V.load rfl rfl rfl rfl rfl rfl ?_ | refine V.store rfl rfl rfl rfl rfl rfl rfl ?_ | refine V.condT rfl ?_ | refine V.condF rfl ?_)); refine V.ret1 (L0 := []) rfl rfl rfl rfl rfl ⟨?_, GH.le_refl _, (by repeat (first | exact List.Sublist.refl _ | apply List.Sublist.cons))⟩; rw [look_no (fun hh => hf ((fits2 hs).1 hh).2)]
            · simp [lookI_neg] at hf; (repeat (first | refine V.step rfl ?_ | refine V.load rfl rfl rfl rfl rfl rfl ?_ | refine V.store rfl rfl rfl rfl rfl rfl rfl ?_ | refine V.condT rfl ?_ | refine V.condF rfl ?_)); refine V.again ?_; (repeat (first | refine V.step rfl ?_ | refine V.load rfl rfl rfl rfl rfl rfl ?_ | refine V.store rfl rfl rfl rfl rfl rfl rfl ?_ | refine V.condT rfl ?_ | refine V.condF rfl ?_)); refine V.ret1 (L0 := []) rfl rfl rfl rfl rfl ⟨?_, GH.le_refl _, (by repeat (first | exact List.Sublist.refl _ | apply List.Sublist.cons))⟩; rw [look_yes hf, look_yes ((fits2 hs).2 ⟨he, hf⟩)]; refine int64_eq ?_; have := hf.2.1; rw [wr64 _ (by omega)]; simp [sz, szl]; omega
    · obtain ⟨k, o, t, n, v, l⟩ := e
      simp only [RK] at hr
      obtain ⟨hz, a, cap, rfl, hcap, hl⟩ := hr
      refine Does.is (Does.of_V (cfg w0 70 Tryz.f70 45 (RIs (.int .i64 _) h L) Tryz.func70) rfl rfl rfl rfl rfl rfl ?_); (repeat (first | refine V.step rfl ?_ | refine V.load rfl rfl rfl rfl rfl rfl ?_ | refine V.store rfl rfl rfl rfl rfl rfl rfl ?_ | refine V.condT rfl ?_ | refine V.condF rfl ?_)); refine V.box rfl rfl rfl rfl rfl rfl fun be => ?_; (repeat (first | refine V.step rfl ?_ | refine V.load rfl rfl rfl rfl rfl rfl ?_ | refine V.store rfl rfl rfl rfl rfl rfl rfl ?_ | refine V.condT rfl ?_ | refine V.condF rfl ?_))
      refine V.split 16 rfl (fun hc => (by simp at hc; (repeat (first | refine V.step rfl ?_ | refine V.load rfl rfl rfl rfl rfl rfl ?_ | refine V.store rfl rfl rfl rfl rfl rfl rfl ?_ | refine V.condT rfl ?_ | refine V.condF rfl ?_ | refine V.skip rfl rfl ?_ | refine V.pickT rfl rfl rfl rfl rfl ?_ | refine V.pickF rfl rfl rfl rfl rfl ?_)); refine V.ret1 (L0 := []) rfl rfl rfl rfl rfl ⟨?_, GH.le_refl _, (by repeat (first | exact List.Sublist.refl _ | apply List.Sublist.cons))⟩; rw [look_no (fits_not (by omega))])) (fun hc => ?_); (simp at hc)
      · (repeat (first | refine V.step rfl ?_ | refine V.load rfl rfl rfl rfl rfl rfl ?_ | refine V.store rfl rfl rfl rfl rfl rfl rfl ?_ | refine V.condT rfl ?_ | refine V.condF rfl ?_)); refine V.callIs rfl rfl rfl rfl rfl rfl (shape_does w0 h _ _ _ hr') ?_; (repeat (first | refine V.step rfl ?_ | refine V.load rfl rfl rfl rfl rfl rfl ?_ | refine V.store rfl rfl rfl rfl rfl rfl rfl ?_ | refine V.condT rfl ?_ | refine V.condF rfl ?_)); refine V.cond rfl (fun hd => ?_) (fun hd => (by simp at hd; exact (hs hd).elim)); (repeat (first | refine V.step rfl ?_ | refine V.load rfl rfl rfl rfl rfl rfl ?_ | refine V.store rfl rfl rfl rfl rfl rfl rfl ?_ | refine V.condT rfl ?_ | refine V.condF rfl ?_)); refine V.ret1 (L0 := []) rfl rfl rfl rfl rfl ⟨?_, GH.le_refl _, (by repeat (first | exact List.Sublist.refl _ | apply List.Sublist.cons))⟩; rw [look_no (fits_not (.inr (.inr (by simpa using hs))))]
end Go.Proofs.YtgmeahcclogfmaaGreatDoor.S22
/-!
  Chapter 22: the clear text's answers; depth.join.
-/
namespace Go.Proofs.YtgmeahcclogfmaaGreatDoor.S22
open Go Go.Tp
set_option linter.unusedVariables false
set_option linter.unusedSimpArgs false
set_option maxRecDepth 100000
set_option maxHeartbeats 4000000
abbrev valid (e : KE) : Prop := fits e 256 32
theorem lookI_pos {e : KE} {r d : Int} : lookI e r d > 0 ↔ fits e r d := by
  unfold lookI; split
  · rename_i h; have := sz_pos e; constructor
    · intro _; exact h
    · intro _; omega
  · rename_i h; constructor
    · intro hh; omega
    · intro hh; exact (h hh).elim
theorem RK_c {h : GH} {e : KE} {cs : List Value} (hr : RK h e cs) : ∃ k o t n v a m cap, cs = [.int .u8 k, .int .u8 o, .int .u8 t, .int .i32 n, .int .i64 v, .slice a m cap] := by
  obtain ⟨k, o, t, n, v, l⟩ := e
  simp only [RK] at hr
  obtain ⟨hz, a, cap, rfl, hcap, hl⟩ := hr
  exact ⟨_, _, _, _, _, _, _, _, rfl⟩
theorem may_does (w0 : World) (h : GH) (L : List Ent) (e : KE) (cs : List Value) (hr : RK h e cs) : Does Tryz.prog w0 48 [.agg ⟨cs⟩] h L (Is (.bool (decide (valid e))) h L) := by
  obtain ⟨k, o, t, n, v, a, m, cap, rfl⟩ := RK_c hr
  refine Does.is (Does.of_V (cfg w0 48 Tryz.f48 6 (RIs (.bool _) h L) Tryz.func48) rfl rfl rfl rfl rfl rfl ?_)
  (repeat (first | refine V.step rfl ?_ | refine V.load rfl rfl rfl rfl rfl rfl ?_ | refine V.store rfl rfl rfl rfl rfl rfl rfl ?_ | refine V.condT rfl ?_ | refine V.condF rfl ?_)); refine V.box rfl rfl rfl rfl rfl rfl fun be => ?_; (repeat (first | refine V.step rfl ?_ | refine V.load rfl rfl rfl rfl rfl rfl ?_ | refine V.store rfl rfl rfl rfl rfl rfl rfl ?_ | refine V.condT rfl ?_ | refine V.condF rfl ?_)); refine V.callIs rfl rfl rfl rfl rfl rfl (look_does w0 h _ e _ _ 256 32 (Nat.le_refl _) (by omega) (by omega) (by omega) (by omega) hr) ?_; (repeat (first | refine V.step rfl ?_ | refine V.load rfl rfl rfl rfl rfl rfl ?_ | refine V.store rfl rfl rfl rfl rfl rfl rfl ?_ | refine V.condT rfl ?_ | refine V.condF rfl ?_)); refine V.ret1 (L0 := []) rfl rfl rfl rfl rfl ⟨?_, GH.le_refl _, (by repeat (first | exact List.Sublist.refl _ | apply List.Sublist.cons))⟩
  refine bool_eq ?_
  simp [lookI_pos]
def nrOf (e : KE) : NR := if valid e then ne e else ⟨false, 0, 0⟩
theorem nrOf_yes {e : KE} (h : valid e) : nrOf e = ne e := if_pos h
theorem nrOf_no {e : KE} (h : ¬ valid e) : nrOf e = ⟨false, 0, 0⟩ := if_neg h
theorem refSafe_does (w0 : World) (h : GH) (L : List Ent) (e : KE) (cs : List Value) (hr : RK h e cs) : Does Tryz.prog w0 38 [.agg ⟨cs⟩] h L (Is (.bool (nrOf e).safe) h L) := by
  obtain ⟨k, o, t, n, v, a, m, cap, rfl⟩ := RK_c hr
  refine Does.is (Does.of_V (cfg w0 38 Tryz.f38 9 (RIs (.bool _) h L) Tryz.func38) rfl rfl rfl rfl rfl rfl ?_)
  (repeat (first | refine V.step rfl ?_ | refine V.load rfl rfl rfl rfl rfl rfl ?_ | refine V.store rfl rfl rfl rfl rfl rfl rfl ?_ | refine V.condT rfl ?_ | refine V.condF rfl ?_)); refine V.box rfl rfl rfl rfl rfl rfl fun be => ?_; (repeat (first | refine V.step rfl ?_ | refine V.load rfl rfl rfl rfl rfl rfl ?_ | refine V.store rfl rfl rfl rfl rfl rfl rfl ?_ | refine V.condT rfl ?_ | refine V.condF rfl ?_)); refine V.callIs rfl rfl rfl rfl rfl rfl (may_does w0 h _ e _ hr) ?_; (repeat (first | refine V.step rfl ?_ | refine V.load rfl rfl rfl rfl rfl rfl ?_ | refine V.store rfl rfl rfl rfl rfl rfl rfl ?_ | refine V.condT rfl ?_ | refine V.condF rfl ?_))
  refine V.split 5 rfl (fun hc => ?_) (fun hc => ?_)
  · simp at hc; (repeat (first | refine V.step rfl ?_ | refine V.load rfl rfl rfl rfl rfl rfl ?_ | refine V.store rfl rfl rfl rfl rfl rfl rfl ?_ | refine V.condT rfl ?_ | refine V.condF rfl ?_)); refine V.callIs rfl rfl rfl rfl rfl rfl (safe_does w0 h _ e _ _ (Nat.le_refl _) hc.1 hr) ?_; (repeat (first | refine V.step rfl ?_ | refine V.load rfl rfl rfl rfl rfl rfl ?_ | refine V.store rfl rfl rfl rfl rfl rfl rfl ?_ | refine V.condT rfl ?_ | refine V.condF rfl ?_)); refine V.ret1 (L0 := []) rfl rfl rfl rfl rfl ⟨?_, GH.le_refl _, (by repeat (first | exact List.Sublist.refl _ | apply List.Sublist.cons))⟩; rw [nrOf_yes hc]; rfl
  · simp at hc; (repeat (first | refine V.stepY rfl ?_ | refine V.loadY rfl rfl rfl rfl rfl rfl ?_ | refine V.store rfl rfl rfl rfl rfl rfl rfl ?_ | refine V.condT rfl ?_ | refine V.condF rfl ?_ | refine V.skip rfl rfl ?_ | refine V.skipU rfl rfl rfl ?_ | refine V.pickT rfl rfl rfl rfl rfl ?_ | refine V.pickF rfl rfl rfl rfl rfl ?_ | refine V.step rfl ?_ | refine V.load rfl rfl rfl rfl rfl rfl ?_)); refine V.ret1 (L0 := []) rfl rfl rfl rfl rfl ⟨?_, GH.le_refl _, (by repeat (first | exact List.Sublist.refl _ | apply List.Sublist.cons))⟩; rw [nrOf_no hc]
/-! ### depth.join -/
def nrc (a : NR) : List Value := [.bool true, .bool a.safe, .int .i64 a.regs, .int .i64 a.temps]
def quietB (o : Int) : Bool := (6 ≤ o && o ≤ 22) || (24 ≤ o && o ≤ 26)
def quietL : List Value := (List.range 27).map fun (i : Nat) => Value.bool (quietB i)
theorem quiet_at {h : GH} (hq : atH h 0 0 quietL) {o : Int} (h0 : 0 ≤ o) (h1 : o < 27) : h 0 (0 + o.toNat * 1) = some (.bool (quietB o)) := by
  have := hq o.toNat (.bool (quietB o)) (by
    unfold quietL
    rw [List.getElem?_map, List.getElem?_range (by omega)]
    simp only [Option.map_some]
    rw [show ((o.toNat : Nat) : Int) = o by omega])
  simpa using this
theorem join0_does (w0 : World) (h : GH) (L : List Ent) (k o t n v : Int) (a' : Option Addr) (c1 : Nat) (a : Option Addr) (c : Nat) : Does Tryz.prog w0 82 [.agg ⟨[.int .u8 k, .int .u8 o, .int .u8 t, .int .i32 n, .int .i64 v, .slice a' 0 c1]⟩, .slice a 0 c] h L (Is (.agg ⟨nrc ⟨true, 1, 0⟩⟩) h L) := by
  refine Does.is (Does.of_V (cfg w0 82 Tryz.f82 132 (RIs (.agg ⟨nrc _⟩) h L) Tryz.func82) rfl rfl rfl rfl rfl rfl ?_); (repeat (first | refine V.step rfl ?_ | refine V.load rfl rfl rfl rfl rfl rfl ?_ | refine V.store rfl rfl rfl rfl rfl rfl rfl ?_ | refine V.condT rfl ?_ | refine V.condF rfl ?_)); refine V.box rfl rfl rfl rfl rfl rfl fun be => ?_; refine V.alloc rfl rfl rfl rfl rfl rfl fun bx => ?_; (repeat (first | refine V.step rfl ?_ | refine V.load rfl rfl rfl rfl rfl rfl ?_ | refine V.store rfl rfl rfl rfl rfl rfl rfl ?_ | refine V.condT rfl ?_ | refine V.condF rfl ?_)); refine retC0 rfl rfl rfl rfl rfl rfl rfl ⟨?_, GH.le_refl _, (by repeat (first | exact List.Sublist.refl _ | apply List.Sublist.cons))⟩; rfl
theorem agg_eq {s : Bool} {r u : Int} {b : NR} (h1 : s = b.safe) (h2 : r = b.regs) (h3 : u = b.temps) : (Value.agg ⟨[.bool true, .bool s, .int .i64 r, .int .i64 u]⟩) = .agg ⟨nrc b⟩ := by
  unfold nrc; rw [h1, h2, h3]
theorem join3_does (w0 : World) (h : GH) (L : List Ent) (v : Int) (x : NR) (p : Option Addr) (m q : Nat) (b of c : Nat) (ha : atH h b of (nrc x)) :
    Does Tryz.prog w0 82 [.agg ⟨[.int .u8 3, .int .u8 0, .int .u8 0, .int .i32 0, .int .i64 v, .slice p m q]⟩, .slice (some ⟨b, of, none⟩) 1 c] h L (Is (.agg ⟨nrc (jn 3 0 0 0 v [x])⟩) h L) := by
  obtain ⟨s, r, u⟩ := x
  cases s
  · refine Does.is (Does.of_V (cfg w0 82 Tryz.f82 132 (RIs (.agg ⟨nrc _⟩) h L) Tryz.func82) rfl rfl rfl rfl rfl rfl ?_); (repeat (first | refine V.stepY rfl ?_ | refine V.loadY rfl rfl rfl rfl rfl rfl ?_ | refine V.store rfl rfl rfl rfl rfl rfl rfl ?_ | refine V.condT rfl ?_ | refine V.condF rfl ?_ | refine V.skip rfl rfl ?_ | refine V.skipU rfl rfl rfl ?_ | refine V.pickT rfl rfl rfl rfl rfl ?_ | refine V.pickF rfl rfl rfl rfl rfl ?_ | refine V.step rfl ?_ | refine V.load rfl rfl rfl rfl rfl rfl ?_)); refine V.box rfl rfl rfl rfl rfl rfl fun be => ?_; refine V.alloc rfl rfl rfl rfl rfl rfl fun bx => ?_; (repeat (first | refine V.stepY rfl ?_ | refine V.loadY rfl rfl rfl rfl rfl rfl ?_ | refine V.store rfl rfl rfl rfl rfl rfl rfl ?_ | refine V.condT rfl ?_ | refine V.condF rfl ?_ | refine V.skip rfl rfl ?_ | refine V.skipU rfl rfl rfl ?_ | refine V.pickT rfl rfl rfl rfl rfl ?_ | refine V.pickF rfl rfl rfl rfl rfl ?_ | refine V.step rfl ?_ | refine V.load rfl rfl rfl rfl rfl rfl ?_)); refine V.index rfl rfl rfl rfl rfl rfl (by decide) (by decide) ?_; refine V.loadHA rfl rfl rfl rfl rfl ha rfl rfl ?_; refine V.alloc rfl rfl rfl rfl rfl rfl fun bx => ?_; (repeat (first | refine V.stepY rfl ?_ | refine V.loadY rfl rfl rfl rfl rfl rfl ?_ | refine V.store rfl rfl rfl rfl rfl rfl rfl ?_ | refine V.condT rfl ?_ | refine V.condF rfl ?_ | refine V.skip rfl rfl ?_ | refine V.skipU rfl rfl rfl ?_ | refine V.pickT rfl rfl rfl rfl rfl ?_ | refine V.pickF rfl rfl rfl rfl rfl ?_ | refine V.step rfl ?_ | refine V.load rfl rfl rfl rfl rfl rfl ?_)); refine V.litP rfl rfl rfl rfl rfl rfl fun b2 h2' hle2 hat2 => ?_; (repeat (first | refine V.stepY rfl ?_ | refine V.loadY rfl rfl rfl rfl rfl rfl ?_ | refine V.store rfl rfl rfl rfl rfl rfl rfl ?_ | refine V.condT rfl ?_ | refine V.condF rfl ?_ | refine V.skip rfl rfl ?_ | refine V.skipU rfl rfl rfl ?_ | refine V.pickT rfl rfl rfl rfl rfl ?_ | refine V.pickF rfl rfl rfl rfl rfl ?_ | refine V.step rfl ?_ | refine V.load rfl rfl rfl rfl rfl rfl ?_)); refine V.callIs rfl rfl rfl rfl rfl rfl (top_does w0 _ _ _ _ _ hat2 _) ?_; (repeat (first | refine V.stepY rfl ?_ | refine V.loadY rfl rfl rfl rfl rfl rfl ?_ | refine V.store rfl rfl rfl rfl rfl rfl rfl ?_ | refine V.condT rfl ?_ | refine V.condF rfl ?_ | refine V.skip rfl rfl ?_ | refine V.skipU rfl rfl rfl ?_ | refine V.pickT rfl rfl rfl rfl rfl ?_ | refine V.pickF rfl rfl rfl rfl rfl ?_ | refine V.step rfl ?_ | refine V.load rfl rfl rfl rfl rfl rfl ?_)); refine retC0 rfl rfl rfl rfl rfl rfl rfl ⟨?_, hle2, (by repeat (first | exact List.Sublist.refl _ | apply List.Sublist.cons))⟩; (refine agg_eq ?_ ?_ rfl <;> (simp [jn, sureB, easyB, quietB, KE.kind, KE.oper, KE.to, KE.n, KE.v, KE.l] <;> (try split) <;> (try omega)))
  · refine Does.is (Does.of_V (cfg w0 82 Tryz.f82 132 (RIs (.agg ⟨nrc _⟩) h L) Tryz.func82) rfl rfl rfl rfl rfl rfl ?_); (repeat (first | refine V.stepY rfl ?_ | refine V.loadY rfl rfl rfl rfl rfl rfl ?_ | refine V.store rfl rfl rfl rfl rfl rfl rfl ?_ | refine V.condT rfl ?_ | refine V.condF rfl ?_ | refine V.skip rfl rfl ?_ | refine V.skipU rfl rfl rfl ?_ | refine V.pickT rfl rfl rfl rfl rfl ?_ | refine V.pickF rfl rfl rfl rfl rfl ?_ | refine V.step rfl ?_ | refine V.load rfl rfl rfl rfl rfl rfl ?_)); refine V.box rfl rfl rfl rfl rfl rfl fun be => ?_; refine V.alloc rfl rfl rfl rfl rfl rfl fun bx => ?_; (repeat (first | refine V.stepY rfl ?_ | refine V.loadY rfl rfl rfl rfl rfl rfl ?_ | refine V.store rfl rfl rfl rfl rfl rfl rfl ?_ | refine V.condT rfl ?_ | refine V.condF rfl ?_ | refine V.skip rfl rfl ?_ | refine V.skipU rfl rfl rfl ?_ | refine V.pickT rfl rfl rfl rfl rfl ?_ | refine V.pickF rfl rfl rfl rfl rfl ?_ | refine V.step rfl ?_ | refine V.load rfl rfl rfl rfl rfl rfl ?_)); refine V.index rfl rfl rfl rfl rfl rfl (by decide) (by decide) ?_; refine V.loadHA rfl rfl rfl rfl rfl ha rfl rfl ?_; refine V.alloc rfl rfl rfl rfl rfl rfl fun bx => ?_; (repeat (first | refine V.stepY rfl ?_ | refine V.loadY rfl rfl rfl rfl rfl rfl ?_ | refine V.store rfl rfl rfl rfl rfl rfl rfl ?_ | refine V.condT rfl ?_ | refine V.condF rfl ?_ | refine V.skip rfl rfl ?_ | refine V.skipU rfl rfl rfl ?_ | refine V.pickT rfl rfl rfl rfl rfl ?_ | refine V.pickF rfl rfl rfl rfl rfl ?_ | refine V.step rfl ?_ | refine V.load rfl rfl rfl rfl rfl rfl ?_)); refine V.litP rfl rfl rfl rfl rfl rfl fun b2 h2' hle2 hat2 => ?_; (repeat (first | refine V.stepY rfl ?_ | refine V.loadY rfl rfl rfl rfl rfl rfl ?_ | refine V.store rfl rfl rfl rfl rfl rfl rfl ?_ | refine V.condT rfl ?_ | refine V.condF rfl ?_ | refine V.skip rfl rfl ?_ | refine V.skipU rfl rfl rfl ?_ | refine V.pickT rfl rfl rfl rfl rfl ?_ | refine V.pickF rfl rfl rfl rfl rfl ?_ | refine V.step rfl ?_ | refine V.load rfl rfl rfl rfl rfl rfl ?_)); refine V.callIs rfl rfl rfl rfl rfl rfl (top_does w0 _ _ _ _ _ hat2 _) ?_; (repeat (first | refine V.stepY rfl ?_ | refine V.loadY rfl rfl rfl rfl rfl rfl ?_ | refine V.store rfl rfl rfl rfl rfl rfl rfl ?_ | refine V.condT rfl ?_ | refine V.condF rfl ?_ | refine V.skip rfl rfl ?_ | refine V.skipU rfl rfl rfl ?_ | refine V.pickT rfl rfl rfl rfl rfl ?_ | refine V.pickF rfl rfl rfl rfl rfl ?_ | refine V.step rfl ?_ | refine V.load rfl rfl rfl rfl rfl rfl ?_)); refine retC0 rfl rfl rfl rfl rfl rfl rfl ⟨?_, hle2, (by repeat (first | exact List.Sublist.refl _ | apply List.Sublist.cons))⟩; (refine agg_eq ?_ ?_ rfl <;> (simp [jn, sureB, easyB, quietB, KE.kind, KE.oper, KE.to, KE.n, KE.v, KE.l] <;> (try split) <;> (try omega)))
theorem join4_does (w0 : World) (h : GH) (hq : atH h 0 0 quietL) (L : List Ent) (o : Int) (h1 : 23 ≤ o) (h2 : o ≤ 26) (x : NR) (p : Option Addr) (m q : Nat) (b of c : Nat) (ha : atH h b of (nrc x)) :
    Does Tryz.prog w0 82 [.agg ⟨[.int .u8 4, .int .u8 o, .int .u8 0, .int .i32 0, .int .i64 0, .slice p m q]⟩, .slice (some ⟨b, of, none⟩) 1 c] h L (Is (.agg ⟨nrc (jn 4 o 0 0 0 [x])⟩) h L) := by
  have ho : o = 23 ∨ o = 24 ∨ o = 25 ∨ o = 26 := by omega
  obtain ⟨s, r, u⟩ := x
  rcases ho with rfl | rfl | rfl | rfl <;> cases s
  · refine Does.is (Does.of_V (cfg w0 82 Tryz.f82 132 (RIs (.agg ⟨nrc _⟩) h L) Tryz.func82) rfl rfl rfl rfl rfl rfl ?_); (repeat (first | refine V.stepY rfl ?_ | refine V.loadY rfl rfl rfl rfl rfl rfl ?_ | refine V.store rfl rfl rfl rfl rfl rfl rfl ?_ | refine V.condT rfl ?_ | refine V.condF rfl ?_ | refine V.skip rfl rfl ?_ | refine V.skipU rfl rfl rfl ?_ | refine V.pickT rfl rfl rfl rfl rfl ?_ | refine V.pickF rfl rfl rfl rfl rfl ?_ | refine V.step rfl ?_ | refine V.load rfl rfl rfl rfl rfl rfl ?_)); refine V.box rfl rfl rfl rfl rfl rfl fun be => ?_; refine V.alloc rfl rfl rfl rfl rfl rfl fun bx => ?_; (repeat (first | refine V.stepY rfl ?_ | refine V.loadY rfl rfl rfl rfl rfl rfl ?_ | refine V.store rfl rfl rfl rfl rfl rfl rfl ?_ | refine V.condT rfl ?_ | refine V.condF rfl ?_ | refine V.skip rfl rfl ?_ | refine V.skipU rfl rfl rfl ?_ | refine V.pickT rfl rfl rfl rfl rfl ?_ | refine V.pickF rfl rfl rfl rfl rfl ?_ | refine V.step rfl ?_ | refine V.load rfl rfl rfl rfl rfl rfl ?_)); refine V.index rfl rfl rfl rfl rfl rfl (by decide) (by decide) ?_; refine V.loadHA rfl rfl rfl rfl rfl ha rfl rfl ?_; refine V.alloc rfl rfl rfl rfl rfl rfl fun bx => ?_; (repeat (first | refine V.stepY rfl ?_ | refine V.loadY rfl rfl rfl rfl rfl rfl ?_ | refine V.store rfl rfl rfl rfl rfl rfl rfl ?_ | refine V.condT rfl ?_ | refine V.condF rfl ?_ | refine V.skip rfl rfl ?_ | refine V.skipU rfl rfl rfl ?_ | refine V.pickT rfl rfl rfl rfl rfl ?_ | refine V.pickF rfl rfl rfl rfl rfl ?_ | refine V.step rfl ?_ | refine V.load rfl rfl rfl rfl rfl rfl ?_)); refine V.litP rfl rfl rfl rfl rfl rfl fun b2 h2' hle2 hat2 => ?_; (repeat (first | refine V.stepY rfl ?_ | refine V.loadY rfl rfl rfl rfl rfl rfl ?_ | refine V.store rfl rfl rfl rfl rfl rfl rfl ?_ | refine V.condT rfl ?_ | refine V.condF rfl ?_ | refine V.skip rfl rfl ?_ | refine V.skipU rfl rfl rfl ?_ | refine V.pickT rfl rfl rfl rfl rfl ?_ | refine V.pickF rfl rfl rfl rfl rfl ?_ | refine V.step rfl ?_ | refine V.load rfl rfl rfl rfl rfl rfl ?_)); refine V.callIs rfl rfl rfl rfl rfl rfl (top_does w0 _ _ _ _ _ hat2 _) ?_; (repeat (first | refine V.stepY rfl ?_ | refine V.loadY rfl rfl rfl rfl rfl rfl ?_ | refine V.store rfl rfl rfl rfl rfl rfl rfl ?_ | refine V.condT rfl ?_ | refine V.condF rfl ?_ | refine V.skip rfl rfl ?_ | refine V.skipU rfl rfl rfl ?_ | refine V.pickT rfl rfl rfl rfl rfl ?_ | refine V.pickF rfl rfl rfl rfl rfl ?_ | refine V.step rfl ?_ | refine V.load rfl rfl rfl rfl rfl rfl ?_)); refine retC0 rfl rfl rfl rfl rfl rfl rfl ⟨?_, hle2, (by repeat (first | exact List.Sublist.refl _ | apply List.Sublist.cons))⟩; (refine agg_eq ?_ ?_ rfl <;> (simp [jn, sureB, easyB, quietB, KE.kind, KE.oper, KE.to, KE.n, KE.v, KE.l] <;> (try split) <;> (try omega)))
  · refine Does.is (Does.of_V (cfg w0 82 Tryz.f82 132 (RIs (.agg ⟨nrc _⟩) h L) Tryz.func82) rfl rfl rfl rfl rfl rfl ?_); (repeat (first | refine V.stepY rfl ?_ | refine V.loadY rfl rfl rfl rfl rfl rfl ?_ | refine V.store rfl rfl rfl rfl rfl rfl rfl ?_ | refine V.condT rfl ?_ | refine V.condF rfl ?_ | refine V.skip rfl rfl ?_ | refine V.skipU rfl rfl rfl ?_ | refine V.pickT rfl rfl rfl rfl rfl ?_ | refine V.pickF rfl rfl rfl rfl rfl ?_ | refine V.step rfl ?_ | refine V.load rfl rfl rfl rfl rfl rfl ?_)); refine V.box rfl rfl rfl rfl rfl rfl fun be => ?_; refine V.alloc rfl rfl rfl rfl rfl rfl fun bx => ?_; (repeat (first | refine V.stepY rfl ?_ | refine V.loadY rfl rfl rfl rfl rfl rfl ?_ | refine V.store rfl rfl rfl rfl rfl rfl rfl ?_ | refine V.condT rfl ?_ | refine V.condF rfl ?_ | refine V.skip rfl rfl ?_ | refine V.skipU rfl rfl rfl ?_ | refine V.pickT rfl rfl rfl rfl rfl ?_ | refine V.pickF rfl rfl rfl rfl rfl ?_ | refine V.step rfl ?_ | refine V.load rfl rfl rfl rfl rfl rfl ?_)); refine V.index rfl rfl rfl rfl rfl rfl (by decide) (by decide) ?_; refine V.loadHA rfl rfl rfl rfl rfl ha rfl rfl ?_; refine V.alloc rfl rfl rfl rfl rfl rfl fun bx => ?_; (repeat (first | refine V.stepY rfl ?_ | refine V.loadY rfl rfl rfl rfl rfl rfl ?_ | refine V.store rfl rfl rfl rfl rfl rfl rfl ?_ | refine V.condT rfl ?_ | refine V.condF rfl ?_ | refine V.skip rfl rfl ?_ | refine V.skipU rfl rfl rfl ?_ | refine V.pickT rfl rfl rfl rfl rfl ?_ | refine V.pickF rfl rfl rfl rfl rfl ?_ | refine V.step rfl ?_ | refine V.load rfl rfl rfl rfl rfl rfl ?_)); refine V.litP rfl rfl rfl rfl rfl rfl fun b2 h2' hle2 hat2 => ?_; (repeat (first | refine V.stepY rfl ?_ | refine V.loadY rfl rfl rfl rfl rfl rfl ?_ | refine V.store rfl rfl rfl rfl rfl rfl rfl ?_ | refine V.condT rfl ?_ | refine V.condF rfl ?_ | refine V.skip rfl rfl ?_ | refine V.skipU rfl rfl rfl ?_ | refine V.pickT rfl rfl rfl rfl rfl ?_ | refine V.pickF rfl rfl rfl rfl rfl ?_ | refine V.step rfl ?_ | refine V.load rfl rfl rfl rfl rfl rfl ?_)); refine V.callIs rfl rfl rfl rfl rfl rfl (top_does w0 _ _ _ _ _ hat2 _) ?_; (repeat (first | refine V.stepY rfl ?_ | refine V.loadY rfl rfl rfl rfl rfl rfl ?_ | refine V.store rfl rfl rfl rfl rfl rfl rfl ?_ | refine V.condT rfl ?_ | refine V.condF rfl ?_ | refine V.skip rfl rfl ?_ | refine V.skipU rfl rfl rfl ?_ | refine V.pickT rfl rfl rfl rfl rfl ?_ | refine V.pickF rfl rfl rfl rfl rfl ?_ | refine V.step rfl ?_ | refine V.load rfl rfl rfl rfl rfl rfl ?_)); refine V.indexY rfl rfl rfl rfl rfl rfl (by decide) (by decide) ?_; refine V.loadHY rfl rfl rfl rfl rfl (quiet_at (o := 23) (hq.mono hle2) (by decide) (by decide)) rfl ?_; (repeat (first | refine V.stepY rfl ?_ | refine V.loadY rfl rfl rfl rfl rfl rfl ?_ | refine V.store rfl rfl rfl rfl rfl rfl rfl ?_ | refine V.condT rfl ?_ | refine V.condF rfl ?_ | refine V.skip rfl rfl ?_ | refine V.skipU rfl rfl rfl ?_ | refine V.pickT rfl rfl rfl rfl rfl ?_ | refine V.pickF rfl rfl rfl rfl rfl ?_ | refine V.step rfl ?_ | refine V.load rfl rfl rfl rfl rfl rfl ?_)); refine retC0 rfl rfl rfl rfl rfl rfl rfl ⟨?_, hle2, (by repeat (first | exact List.Sublist.refl _ | apply List.Sublist.cons))⟩; (refine agg_eq ?_ ?_ rfl <;> (simp [jn, sureB, easyB, quietB, KE.kind, KE.oper, KE.to, KE.n, KE.v, KE.l] <;> (try split) <;> (try omega)))
  · refine Does.is (Does.of_V (cfg w0 82 Tryz.f82 132 (RIs (.agg ⟨nrc _⟩) h L) Tryz.func82) rfl rfl rfl rfl rfl rfl ?_); (repeat (first | refine V.stepY rfl ?_ | refine V.loadY rfl rfl rfl rfl rfl rfl ?_ | refine V.store rfl rfl rfl rfl rfl rfl rfl ?_ | refine V.condT rfl ?_ | refine V.condF rfl ?_ | refine V.skip rfl rfl ?_ | refine V.skipU rfl rfl rfl ?_ | refine V.pickT rfl rfl rfl rfl rfl ?_ | refine V.pickF rfl rfl rfl rfl rfl ?_ | refine V.step rfl ?_ | refine V.load rfl rfl rfl rfl rfl rfl ?_)); refine V.box rfl rfl rfl rfl rfl rfl fun be => ?_; refine V.alloc rfl rfl rfl rfl rfl rfl fun bx => ?_; (repeat (first | refine V.stepY rfl ?_ | refine V.loadY rfl rfl rfl rfl rfl rfl ?_ | refine V.store rfl rfl rfl rfl rfl rfl rfl ?_ | refine V.condT rfl ?_ | refine V.condF rfl ?_ | refine V.skip rfl rfl ?_ | refine V.skipU rfl rfl rfl ?_ | refine V.pickT rfl rfl rfl rfl rfl ?_ | refine V.pickF rfl rfl rfl rfl rfl ?_ | refine V.step rfl ?_ | refine V.load rfl rfl rfl rfl rfl rfl ?_)); refine V.index rfl rfl rfl rfl rfl rfl (by decide) (by decide) ?_; refine V.loadHA rfl rfl rfl rfl rfl ha rfl rfl ?_; refine V.alloc rfl rfl rfl rfl rfl rfl fun bx => ?_; (repeat (first | refine V.stepY rfl ?_ | refine V.loadY rfl rfl rfl rfl rfl rfl ?_ | refine V.store rfl rfl rfl rfl rfl rfl rfl ?_ | refine V.condT rfl ?_ | refine V.condF rfl ?_ | refine V.skip rfl rfl ?_ | refine V.skipU rfl rfl rfl ?_ | refine V.pickT rfl rfl rfl rfl rfl ?_ | refine V.pickF rfl rfl rfl rfl rfl ?_ | refine V.step rfl ?_ | refine V.load rfl rfl rfl rfl rfl rfl ?_)); refine V.litP rfl rfl rfl rfl rfl rfl fun b2 h2' hle2 hat2 => ?_; (repeat (first | refine V.stepY rfl ?_ | refine V.loadY rfl rfl rfl rfl rfl rfl ?_ | refine V.store rfl rfl rfl rfl rfl rfl rfl ?_ | refine V.condT rfl ?_ | refine V.condF rfl ?_ | refine V.skip rfl rfl ?_ | refine V.skipU rfl rfl rfl ?_ | refine V.pickT rfl rfl rfl rfl rfl ?_ | refine V.pickF rfl rfl rfl rfl rfl ?_ | refine V.step rfl ?_ | refine V.load rfl rfl rfl rfl rfl rfl ?_)); refine V.callIs rfl rfl rfl rfl rfl rfl (top_does w0 _ _ _ _ _ hat2 _) ?_; (repeat (first | refine V.stepY rfl ?_ | refine V.loadY rfl rfl rfl rfl rfl rfl ?_ | refine V.store rfl rfl rfl rfl rfl rfl rfl ?_ | refine V.condT rfl ?_ | refine V.condF rfl ?_ | refine V.skip rfl rfl ?_ | refine V.skipU rfl rfl rfl ?_ | refine V.pickT rfl rfl rfl rfl rfl ?_ | refine V.pickF rfl rfl rfl rfl rfl ?_ | refine V.step rfl ?_ | refine V.load rfl rfl rfl rfl rfl rfl ?_)); refine retC0 rfl rfl rfl rfl rfl rfl rfl ⟨?_, hle2, (by repeat (first | exact List.Sublist.refl _ | apply List.Sublist.cons))⟩; (refine agg_eq ?_ ?_ rfl <;> (simp [jn, sureB, easyB, quietB, KE.kind, KE.oper, KE.to, KE.n, KE.v, KE.l] <;> (try split) <;> (try omega)))
  · refine Does.is (Does.of_V (cfg w0 82 Tryz.f82 132 (RIs (.agg ⟨nrc _⟩) h L) Tryz.func82) rfl rfl rfl rfl rfl rfl ?_); (repeat (first | refine V.stepY rfl ?_ | refine V.loadY rfl rfl rfl rfl rfl rfl ?_ | refine V.store rfl rfl rfl rfl rfl rfl rfl ?_ | refine V.condT rfl ?_ | refine V.condF rfl ?_ | refine V.skip rfl rfl ?_ | refine V.skipU rfl rfl rfl ?_ | refine V.pickT rfl rfl rfl rfl rfl ?_ | refine V.pickF rfl rfl rfl rfl rfl ?_ | refine V.step rfl ?_ | refine V.load rfl rfl rfl rfl rfl rfl ?_)); refine V.box rfl rfl rfl rfl rfl rfl fun be => ?_; refine V.alloc rfl rfl rfl rfl rfl rfl fun bx => ?_; (repeat (first | refine V.stepY rfl ?_ | refine V.loadY rfl rfl rfl rfl rfl rfl ?_ | refine V.store rfl rfl rfl rfl rfl rfl rfl ?_ | refine V.condT rfl ?_ | refine V.condF rfl ?_ | refine V.skip rfl rfl ?_ | refine V.skipU rfl rfl rfl ?_ | refine V.pickT rfl rfl rfl rfl rfl ?_ | refine V.pickF rfl rfl rfl rfl rfl ?_ | refine V.step rfl ?_ | refine V.load rfl rfl rfl rfl rfl rfl ?_)); refine V.index rfl rfl rfl rfl rfl rfl (by decide) (by decide) ?_; refine V.loadHA rfl rfl rfl rfl rfl ha rfl rfl ?_; refine V.alloc rfl rfl rfl rfl rfl rfl fun bx => ?_; (repeat (first | refine V.stepY rfl ?_ | refine V.loadY rfl rfl rfl rfl rfl rfl ?_ | refine V.store rfl rfl rfl rfl rfl rfl rfl ?_ | refine V.condT rfl ?_ | refine V.condF rfl ?_ | refine V.skip rfl rfl ?_ | refine V.skipU rfl rfl rfl ?_ | refine V.pickT rfl rfl rfl rfl rfl ?_ | refine V.pickF rfl rfl rfl rfl rfl ?_ | refine V.step rfl ?_ | refine V.load rfl rfl rfl rfl rfl rfl ?_)); refine V.litP rfl rfl rfl rfl rfl rfl fun b2 h2' hle2 hat2 => ?_; (repeat (first | refine V.stepY rfl ?_ | refine V.loadY rfl rfl rfl rfl rfl rfl ?_ | refine V.store rfl rfl rfl rfl rfl rfl rfl ?_ | refine V.condT rfl ?_ | refine V.condF rfl ?_ | refine V.skip rfl rfl ?_ | refine V.skipU rfl rfl rfl ?_ | refine V.pickT rfl rfl rfl rfl rfl ?_ | refine V.pickF rfl rfl rfl rfl rfl ?_ | refine V.step rfl ?_ | refine V.load rfl rfl rfl rfl rfl rfl ?_)); refine V.callIs rfl rfl rfl rfl rfl rfl (top_does w0 _ _ _ _ _ hat2 _) ?_; (repeat (first | refine V.stepY rfl ?_ | refine V.loadY rfl rfl rfl rfl rfl rfl ?_ | refine V.store rfl rfl rfl rfl rfl rfl rfl ?_ | refine V.condT rfl ?_ | refine V.condF rfl ?_ | refine V.skip rfl rfl ?_ | refine V.skipU rfl rfl rfl ?_ | refine V.pickT rfl rfl rfl rfl rfl ?_ | refine V.pickF rfl rfl rfl rfl rfl ?_ | refine V.step rfl ?_ | refine V.load rfl rfl rfl rfl rfl rfl ?_)); refine V.indexY rfl rfl rfl rfl rfl rfl (by decide) (by decide) ?_; refine V.loadHY rfl rfl rfl rfl rfl (quiet_at (o := 24) (hq.mono hle2) (by decide) (by decide)) rfl ?_; (repeat (first | refine V.stepY rfl ?_ | refine V.loadY rfl rfl rfl rfl rfl rfl ?_ | refine V.store rfl rfl rfl rfl rfl rfl rfl ?_ | refine V.condT rfl ?_ | refine V.condF rfl ?_ | refine V.skip rfl rfl ?_ | refine V.skipU rfl rfl rfl ?_ | refine V.pickT rfl rfl rfl rfl rfl ?_ | refine V.pickF rfl rfl rfl rfl rfl ?_ | refine V.step rfl ?_ | refine V.load rfl rfl rfl rfl rfl rfl ?_)); refine retC0 rfl rfl rfl rfl rfl rfl rfl ⟨?_, hle2, (by repeat (first | exact List.Sublist.refl _ | apply List.Sublist.cons))⟩; (refine agg_eq ?_ ?_ rfl <;> (simp [jn, sureB, easyB, quietB, KE.kind, KE.oper, KE.to, KE.n, KE.v, KE.l] <;> (try split) <;> (try omega)))
  · refine Does.is (Does.of_V (cfg w0 82 Tryz.f82 132 (RIs (.agg ⟨nrc _⟩) h L) Tryz.func82) rfl rfl rfl rfl rfl rfl ?_); (repeat (first | refine V.stepY rfl ?_ | refine V.loadY rfl rfl rfl rfl rfl rfl ?_ | refine V.store rfl rfl rfl rfl rfl rfl rfl ?_ | refine V.condT rfl ?_ | refine V.condF rfl ?_ | refine V.skip rfl rfl ?_ | refine V.skipU rfl rfl rfl ?_ | refine V.pickT rfl rfl rfl rfl rfl ?_ | refine V.pickF rfl rfl rfl rfl rfl ?_ | refine V.step rfl ?_ | refine V.load rfl rfl rfl rfl rfl rfl ?_)); refine V.box rfl rfl rfl rfl rfl rfl fun be => ?_; refine V.alloc rfl rfl rfl rfl rfl rfl fun bx => ?_; (repeat (first | refine V.stepY rfl ?_ | refine V.loadY rfl rfl rfl rfl rfl rfl ?_ | refine V.store rfl rfl rfl rfl rfl rfl rfl ?_ | refine V.condT rfl ?_ | refine V.condF rfl ?_ | refine V.skip rfl rfl ?_ | refine V.skipU rfl rfl rfl ?_ | refine V.pickT rfl rfl rfl rfl rfl ?_ | refine V.pickF rfl rfl rfl rfl rfl ?_ | refine V.step rfl ?_ | refine V.load rfl rfl rfl rfl rfl rfl ?_)); refine V.index rfl rfl rfl rfl rfl rfl (by decide) (by decide) ?_; refine V.loadHA rfl rfl rfl rfl rfl ha rfl rfl ?_; refine V.alloc rfl rfl rfl rfl rfl rfl fun bx => ?_; (repeat (first | refine V.stepY rfl ?_ | refine V.loadY rfl rfl rfl rfl rfl rfl ?_ | refine V.store rfl rfl rfl rfl rfl rfl rfl ?_ | refine V.condT rfl ?_ | refine V.condF rfl ?_ | refine V.skip rfl rfl ?_ | refine V.skipU rfl rfl rfl ?_ | refine V.pickT rfl rfl rfl rfl rfl ?_ | refine V.pickF rfl rfl rfl rfl rfl ?_ | refine V.step rfl ?_ | refine V.load rfl rfl rfl rfl rfl rfl ?_)); refine retC0 rfl rfl rfl rfl rfl rfl rfl ⟨?_, GH.le_refl _, (by repeat (first | exact List.Sublist.refl _ | apply List.Sublist.cons))⟩; (refine agg_eq ?_ ?_ rfl <;> (simp [jn, sureB, easyB, quietB, KE.kind, KE.oper, KE.to, KE.n, KE.v, KE.l] <;> (try split) <;> (try omega)))
  · refine Does.is (Does.of_V (cfg w0 82 Tryz.f82 132 (RIs (.agg ⟨nrc _⟩) h L) Tryz.func82) rfl rfl rfl rfl rfl rfl ?_); (repeat (first | refine V.stepY rfl ?_ | refine V.loadY rfl rfl rfl rfl rfl rfl ?_ | refine V.store rfl rfl rfl rfl rfl rfl rfl ?_ | refine V.condT rfl ?_ | refine V.condF rfl ?_ | refine V.skip rfl rfl ?_ | refine V.skipU rfl rfl rfl ?_ | refine V.pickT rfl rfl rfl rfl rfl ?_ | refine V.pickF rfl rfl rfl rfl rfl ?_ | refine V.step rfl ?_ | refine V.load rfl rfl rfl rfl rfl rfl ?_)); refine V.box rfl rfl rfl rfl rfl rfl fun be => ?_; refine V.alloc rfl rfl rfl rfl rfl rfl fun bx => ?_; (repeat (first | refine V.stepY rfl ?_ | refine V.loadY rfl rfl rfl rfl rfl rfl ?_ | refine V.store rfl rfl rfl rfl rfl rfl rfl ?_ | refine V.condT rfl ?_ | refine V.condF rfl ?_ | refine V.skip rfl rfl ?_ | refine V.skipU rfl rfl rfl ?_ | refine V.pickT rfl rfl rfl rfl rfl ?_ | refine V.pickF rfl rfl rfl rfl rfl ?_ | refine V.step rfl ?_ | refine V.load rfl rfl rfl rfl rfl rfl ?_)); refine V.index rfl rfl rfl rfl rfl rfl (by decide) (by decide) ?_; refine V.loadHA rfl rfl rfl rfl rfl ha rfl rfl ?_; refine V.alloc rfl rfl rfl rfl rfl rfl fun bx => ?_; (repeat (first | refine V.stepY rfl ?_ | refine V.loadY rfl rfl rfl rfl rfl rfl ?_ | refine V.store rfl rfl rfl rfl rfl rfl rfl ?_ | refine V.condT rfl ?_ | refine V.condF rfl ?_ | refine V.skip rfl rfl ?_ | refine V.skipU rfl rfl rfl ?_ | refine V.pickT rfl rfl rfl rfl rfl ?_ | refine V.pickF rfl rfl rfl rfl rfl ?_ | refine V.step rfl ?_ | refine V.load rfl rfl rfl rfl rfl rfl ?_)); refine retC0 rfl rfl rfl rfl rfl rfl rfl ⟨?_, GH.le_refl _, (by repeat (first | exact List.Sublist.refl _ | apply List.Sublist.cons))⟩; (refine agg_eq ?_ ?_ rfl <;> (simp [jn, sureB, easyB, quietB, KE.kind, KE.oper, KE.to, KE.n, KE.v, KE.l] <;> (try split) <;> (try omega)))
  · refine Does.is (Does.of_V (cfg w0 82 Tryz.f82 132 (RIs (.agg ⟨nrc _⟩) h L) Tryz.func82) rfl rfl rfl rfl rfl rfl ?_); (repeat (first | refine V.stepY rfl ?_ | refine V.loadY rfl rfl rfl rfl rfl rfl ?_ | refine V.store rfl rfl rfl rfl rfl rfl rfl ?_ | refine V.condT rfl ?_ | refine V.condF rfl ?_ | refine V.skip rfl rfl ?_ | refine V.skipU rfl rfl rfl ?_ | refine V.pickT rfl rfl rfl rfl rfl ?_ | refine V.pickF rfl rfl rfl rfl rfl ?_ | refine V.step rfl ?_ | refine V.load rfl rfl rfl rfl rfl rfl ?_)); refine V.box rfl rfl rfl rfl rfl rfl fun be => ?_; refine V.alloc rfl rfl rfl rfl rfl rfl fun bx => ?_; (repeat (first | refine V.stepY rfl ?_ | refine V.loadY rfl rfl rfl rfl rfl rfl ?_ | refine V.store rfl rfl rfl rfl rfl rfl rfl ?_ | refine V.condT rfl ?_ | refine V.condF rfl ?_ | refine V.skip rfl rfl ?_ | refine V.skipU rfl rfl rfl ?_ | refine V.pickT rfl rfl rfl rfl rfl ?_ | refine V.pickF rfl rfl rfl rfl rfl ?_ | refine V.step rfl ?_ | refine V.load rfl rfl rfl rfl rfl rfl ?_)); refine V.index rfl rfl rfl rfl rfl rfl (by decide) (by decide) ?_; refine V.loadHA rfl rfl rfl rfl rfl ha rfl rfl ?_; refine V.alloc rfl rfl rfl rfl rfl rfl fun bx => ?_; (repeat (first | refine V.stepY rfl ?_ | refine V.loadY rfl rfl rfl rfl rfl rfl ?_ | refine V.store rfl rfl rfl rfl rfl rfl rfl ?_ | refine V.condT rfl ?_ | refine V.condF rfl ?_ | refine V.skip rfl rfl ?_ | refine V.skipU rfl rfl rfl ?_ | refine V.pickT rfl rfl rfl rfl rfl ?_ | refine V.pickF rfl rfl rfl rfl rfl ?_ | refine V.step rfl ?_ | refine V.load rfl rfl rfl rfl rfl rfl ?_)); refine retC0 rfl rfl rfl rfl rfl rfl rfl ⟨?_, GH.le_refl _, (by repeat (first | exact List.Sublist.refl _ | apply List.Sublist.cons))⟩; (refine agg_eq ?_ ?_ rfl <;> (simp [jn, sureB, easyB, quietB, KE.kind, KE.oper, KE.to, KE.n, KE.v, KE.l] <;> (try split) <;> (try omega)))
  · refine Does.is (Does.of_V (cfg w0 82 Tryz.f82 132 (RIs (.agg ⟨nrc _⟩) h L) Tryz.func82) rfl rfl rfl rfl rfl rfl ?_); (repeat (first | refine V.stepY rfl ?_ | refine V.loadY rfl rfl rfl rfl rfl rfl ?_ | refine V.store rfl rfl rfl rfl rfl rfl rfl ?_ | refine V.condT rfl ?_ | refine V.condF rfl ?_ | refine V.skip rfl rfl ?_ | refine V.skipU rfl rfl rfl ?_ | refine V.pickT rfl rfl rfl rfl rfl ?_ | refine V.pickF rfl rfl rfl rfl rfl ?_ | refine V.step rfl ?_ | refine V.load rfl rfl rfl rfl rfl rfl ?_)); refine V.box rfl rfl rfl rfl rfl rfl fun be => ?_; refine V.alloc rfl rfl rfl rfl rfl rfl fun bx => ?_; (repeat (first | refine V.stepY rfl ?_ | refine V.loadY rfl rfl rfl rfl rfl rfl ?_ | refine V.store rfl rfl rfl rfl rfl rfl rfl ?_ | refine V.condT rfl ?_ | refine V.condF rfl ?_ | refine V.skip rfl rfl ?_ | refine V.skipU rfl rfl rfl ?_ | refine V.pickT rfl rfl rfl rfl rfl ?_ | refine V.pickF rfl rfl rfl rfl rfl ?_ | refine V.step rfl ?_ | refine V.load rfl rfl rfl rfl rfl rfl ?_)); refine V.index rfl rfl rfl rfl rfl rfl (by decide) (by decide) ?_; refine V.loadHA rfl rfl rfl rfl rfl ha rfl rfl ?_; refine V.alloc rfl rfl rfl rfl rfl rfl fun bx => ?_; (repeat (first | refine V.stepY rfl ?_ | refine V.loadY rfl rfl rfl rfl rfl rfl ?_ | refine V.store rfl rfl rfl rfl rfl rfl rfl ?_ | refine V.condT rfl ?_ | refine V.condF rfl ?_ | refine V.skip rfl rfl ?_ | refine V.skipU rfl rfl rfl ?_ | refine V.pickT rfl rfl rfl rfl rfl ?_ | refine V.pickF rfl rfl rfl rfl rfl ?_ | refine V.step rfl ?_ | refine V.load rfl rfl rfl rfl rfl rfl ?_)); refine retC0 rfl rfl rfl rfl rfl rfl rfl ⟨?_, GH.le_refl _, (by repeat (first | exact List.Sublist.refl _ | apply List.Sublist.cons))⟩; (refine agg_eq ?_ ?_ rfl <;> (simp [jn, sureB, easyB, quietB, KE.kind, KE.oper, KE.to, KE.n, KE.v, KE.l] <;> (try split) <;> (try omega)))
theorem join6_does (w0 : World) (h : GH) (L : List Ent) (t : Int) (h1 : 1 ≤ t) (h2 : t ≤ 3) (x : NR) (p : Option Addr) (m q : Nat) (b of c : Nat) (ha : atH h b of (nrc x)) :
    Does Tryz.prog w0 82 [.agg ⟨[.int .u8 6, .int .u8 0, .int .u8 t, .int .i32 0, .int .i64 0, .slice p m q]⟩, .slice (some ⟨b, of, none⟩) 1 c] h L (Is (.agg ⟨nrc (jn 6 0 t 0 0 [x])⟩) h L) := by
  have ho : t = 1 ∨ t = 2 ∨ t = 3 := by omega
  obtain ⟨s, r, u⟩ := x
  rcases ho with rfl | rfl | rfl <;> cases s
  · refine Does.is (Does.of_V (cfg w0 82 Tryz.f82 132 (RIs (.agg ⟨nrc _⟩) h L) Tryz.func82) rfl rfl rfl rfl rfl rfl ?_); (repeat (first | refine V.stepY rfl ?_ | refine V.loadY rfl rfl rfl rfl rfl rfl ?_ | refine V.store rfl rfl rfl rfl rfl rfl rfl ?_ | refine V.condT rfl ?_ | refine V.condF rfl ?_ | refine V.skip rfl rfl ?_ | refine V.skipU rfl rfl rfl ?_ | refine V.pickT rfl rfl rfl rfl rfl ?_ | refine V.pickF rfl rfl rfl rfl rfl ?_ | refine V.step rfl ?_ | refine V.load rfl rfl rfl rfl rfl rfl ?_)); refine V.box rfl rfl rfl rfl rfl rfl fun be => ?_; refine V.alloc rfl rfl rfl rfl rfl rfl fun bx => ?_; (repeat (first | refine V.stepY rfl ?_ | refine V.loadY rfl rfl rfl rfl rfl rfl ?_ | refine V.store rfl rfl rfl rfl rfl rfl rfl ?_ | refine V.condT rfl ?_ | refine V.condF rfl ?_ | refine V.skip rfl rfl ?_ | refine V.skipU rfl rfl rfl ?_ | refine V.pickT rfl rfl rfl rfl rfl ?_ | refine V.pickF rfl rfl rfl rfl rfl ?_ | refine V.step rfl ?_ | refine V.load rfl rfl rfl rfl rfl rfl ?_)); refine V.index rfl rfl rfl rfl rfl rfl (by decide) (by decide) ?_; refine V.loadHA rfl rfl rfl rfl rfl ha rfl rfl ?_; refine V.alloc rfl rfl rfl rfl rfl rfl fun bx => ?_; (repeat (first | refine V.stepY rfl ?_ | refine V.loadY rfl rfl rfl rfl rfl rfl ?_ | refine V.store rfl rfl rfl rfl rfl rfl rfl ?_ | refine V.condT rfl ?_ | refine V.condF rfl ?_ | refine V.skip rfl rfl ?_ | refine V.skipU rfl rfl rfl ?_ | refine V.pickT rfl rfl rfl rfl rfl ?_ | refine V.pickF rfl rfl rfl rfl rfl ?_ | refine V.step rfl ?_ | refine V.load rfl rfl rfl rfl rfl rfl ?_)); refine retC0 rfl rfl rfl rfl rfl rfl rfl ⟨?_, GH.le_refl _, (by repeat (first | exact List.Sublist.refl _ | apply List.Sublist.cons))⟩; (refine agg_eq ?_ ?_ rfl <;> (simp [jn, sureB, easyB, quietB, KE.kind, KE.oper, KE.to, KE.n, KE.v, KE.l] <;> (try split) <;> (try omega)))
  · refine Does.is (Does.of_V (cfg w0 82 Tryz.f82 132 (RIs (.agg ⟨nrc _⟩) h L) Tryz.func82) rfl rfl rfl rfl rfl rfl ?_); (repeat (first | refine V.stepY rfl ?_ | refine V.loadY rfl rfl rfl rfl rfl rfl ?_ | refine V.store rfl rfl rfl rfl rfl rfl rfl ?_ | refine V.condT rfl ?_ | refine V.condF rfl ?_ | refine V.skip rfl rfl ?_ | refine V.skipU rfl rfl rfl ?_ | refine V.pickT rfl rfl rfl rfl rfl ?_ | refine V.pickF rfl rfl rfl rfl rfl ?_ | refine V.step rfl ?_ | refine V.load rfl rfl rfl rfl rfl rfl ?_)); refine V.box rfl rfl rfl rfl rfl rfl fun be => ?_; refine V.alloc rfl rfl rfl rfl rfl rfl fun bx => ?_; (repeat (first | refine V.stepY rfl ?_ | refine V.loadY rfl rfl rfl rfl rfl rfl ?_ | refine V.store rfl rfl rfl rfl rfl rfl rfl ?_ | refine V.condT rfl ?_ | refine V.condF rfl ?_ | refine V.skip rfl rfl ?_ | refine V.skipU rfl rfl rfl ?_ | refine V.pickT rfl rfl rfl rfl rfl ?_ | refine V.pickF rfl rfl rfl rfl rfl ?_ | refine V.step rfl ?_ | refine V.load rfl rfl rfl rfl rfl rfl ?_)); refine V.index rfl rfl rfl rfl rfl rfl (by decide) (by decide) ?_; refine V.loadHA rfl rfl rfl rfl rfl ha rfl rfl ?_; refine V.alloc rfl rfl rfl rfl rfl rfl fun bx => ?_; (repeat (first | refine V.stepY rfl ?_ | refine V.loadY rfl rfl rfl rfl rfl rfl ?_ | refine V.store rfl rfl rfl rfl rfl rfl rfl ?_ | refine V.condT rfl ?_ | refine V.condF rfl ?_ | refine V.skip rfl rfl ?_ | refine V.skipU rfl rfl rfl ?_ | refine V.pickT rfl rfl rfl rfl rfl ?_ | refine V.pickF rfl rfl rfl rfl rfl ?_ | refine V.step rfl ?_ | refine V.load rfl rfl rfl rfl rfl rfl ?_)); refine retC0 rfl rfl rfl rfl rfl rfl rfl ⟨?_, GH.le_refl _, (by repeat (first | exact List.Sublist.refl _ | apply List.Sublist.cons))⟩; (refine agg_eq ?_ ?_ rfl <;> (simp [jn, sureB, easyB, quietB, KE.kind, KE.oper, KE.to, KE.n, KE.v, KE.l] <;> (try split) <;> (try omega)))
  · refine Does.is (Does.of_V (cfg w0 82 Tryz.f82 132 (RIs (.agg ⟨nrc _⟩) h L) Tryz.func82) rfl rfl rfl rfl rfl rfl ?_); (repeat (first | refine V.stepY rfl ?_ | refine V.loadY rfl rfl rfl rfl rfl rfl ?_ | refine V.store rfl rfl rfl rfl rfl rfl rfl ?_ | refine V.condT rfl ?_ | refine V.condF rfl ?_ | refine V.skip rfl rfl ?_ | refine V.skipU rfl rfl rfl ?_ | refine V.pickT rfl rfl rfl rfl rfl ?_ | refine V.pickF rfl rfl rfl rfl rfl ?_ | refine V.step rfl ?_ | refine V.load rfl rfl rfl rfl rfl rfl ?_)); refine V.box rfl rfl rfl rfl rfl rfl fun be => ?_; refine V.alloc rfl rfl rfl rfl rfl rfl fun bx => ?_; (repeat (first | refine V.stepY rfl ?_ | refine V.loadY rfl rfl rfl rfl rfl rfl ?_ | refine V.store rfl rfl rfl rfl rfl rfl rfl ?_ | refine V.condT rfl ?_ | refine V.condF rfl ?_ | refine V.skip rfl rfl ?_ | refine V.skipU rfl rfl rfl ?_ | refine V.pickT rfl rfl rfl rfl rfl ?_ | refine V.pickF rfl rfl rfl rfl rfl ?_ | refine V.step rfl ?_ | refine V.load rfl rfl rfl rfl rfl rfl ?_)); refine V.index rfl rfl rfl rfl rfl rfl (by decide) (by decide) ?_; refine V.loadHA rfl rfl rfl rfl rfl ha rfl rfl ?_; refine V.alloc rfl rfl rfl rfl rfl rfl fun bx => ?_; (repeat (first | refine V.stepY rfl ?_ | refine V.loadY rfl rfl rfl rfl rfl rfl ?_ | refine V.store rfl rfl rfl rfl rfl rfl rfl ?_ | refine V.condT rfl ?_ | refine V.condF rfl ?_ | refine V.skip rfl rfl ?_ | refine V.skipU rfl rfl rfl ?_ | refine V.pickT rfl rfl rfl rfl rfl ?_ | refine V.pickF rfl rfl rfl rfl rfl ?_ | refine V.step rfl ?_ | refine V.load rfl rfl rfl rfl rfl rfl ?_)); refine V.litP rfl rfl rfl rfl rfl rfl fun b2 h2' hle2 hat2 => ?_; (repeat (first | refine V.stepY rfl ?_ | refine V.loadY rfl rfl rfl rfl rfl rfl ?_ | refine V.store rfl rfl rfl rfl rfl rfl rfl ?_ | refine V.condT rfl ?_ | refine V.condF rfl ?_ | refine V.skip rfl rfl ?_ | refine V.skipU rfl rfl rfl ?_ | refine V.pickT rfl rfl rfl rfl rfl ?_ | refine V.pickF rfl rfl rfl rfl rfl ?_ | refine V.step rfl ?_ | refine V.load rfl rfl rfl rfl rfl rfl ?_)); refine V.callIs rfl rfl rfl rfl rfl rfl (top_does w0 _ _ _ _ _ hat2 _) ?_; (repeat (first | refine V.stepY rfl ?_ | refine V.loadY rfl rfl rfl rfl rfl rfl ?_ | refine V.store rfl rfl rfl rfl rfl rfl rfl ?_ | refine V.condT rfl ?_ | refine V.condF rfl ?_ | refine V.skip rfl rfl ?_ | refine V.skipU rfl rfl rfl ?_ | refine V.pickT rfl rfl rfl rfl rfl ?_ | refine V.pickF rfl rfl rfl rfl rfl ?_ | refine V.step rfl ?_ | refine V.load rfl rfl rfl rfl rfl rfl ?_)); refine retC0 rfl rfl rfl rfl rfl rfl rfl ⟨?_, hle2, (by repeat (first | exact List.Sublist.refl _ | apply List.Sublist.cons))⟩; (refine agg_eq ?_ ?_ rfl <;> (simp [jn, sureB, easyB, quietB, KE.kind, KE.oper, KE.to, KE.n, KE.v, KE.l] <;> (try split) <;> (try omega)))
  · refine Does.is (Does.of_V (cfg w0 82 Tryz.f82 132 (RIs (.agg ⟨nrc _⟩) h L) Tryz.func82) rfl rfl rfl rfl rfl rfl ?_); (repeat (first | refine V.stepY rfl ?_ | refine V.loadY rfl rfl rfl rfl rfl rfl ?_ | refine V.store rfl rfl rfl rfl rfl rfl rfl ?_ | refine V.condT rfl ?_ | refine V.condF rfl ?_ | refine V.skip rfl rfl ?_ | refine V.skipU rfl rfl rfl ?_ | refine V.pickT rfl rfl rfl rfl rfl ?_ | refine V.pickF rfl rfl rfl rfl rfl ?_ | refine V.step rfl ?_ | refine V.load rfl rfl rfl rfl rfl rfl ?_)); refine V.box rfl rfl rfl rfl rfl rfl fun be => ?_; refine V.alloc rfl rfl rfl rfl rfl rfl fun bx => ?_; (repeat (first | refine V.stepY rfl ?_ | refine V.loadY rfl rfl rfl rfl rfl rfl ?_ | refine V.store rfl rfl rfl rfl rfl rfl rfl ?_ | refine V.condT rfl ?_ | refine V.condF rfl ?_ | refine V.skip rfl rfl ?_ | refine V.skipU rfl rfl rfl ?_ | refine V.pickT rfl rfl rfl rfl rfl ?_ | refine V.pickF rfl rfl rfl rfl rfl ?_ | refine V.step rfl ?_ | refine V.load rfl rfl rfl rfl rfl rfl ?_)); refine V.index rfl rfl rfl rfl rfl rfl (by decide) (by decide) ?_; refine V.loadHA rfl rfl rfl rfl rfl ha rfl rfl ?_; refine V.alloc rfl rfl rfl rfl rfl rfl fun bx => ?_; (repeat (first | refine V.stepY rfl ?_ | refine V.loadY rfl rfl rfl rfl rfl rfl ?_ | refine V.store rfl rfl rfl rfl rfl rfl rfl ?_ | refine V.condT rfl ?_ | refine V.condF rfl ?_ | refine V.skip rfl rfl ?_ | refine V.skipU rfl rfl rfl ?_ | refine V.pickT rfl rfl rfl rfl rfl ?_ | refine V.pickF rfl rfl rfl rfl rfl ?_ | refine V.step rfl ?_ | refine V.load rfl rfl rfl rfl rfl rfl ?_)); refine V.litP rfl rfl rfl rfl rfl rfl fun b2 h2' hle2 hat2 => ?_; (repeat (first | refine V.stepY rfl ?_ | refine V.loadY rfl rfl rfl rfl rfl rfl ?_ | refine V.store rfl rfl rfl rfl rfl rfl rfl ?_ | refine V.condT rfl ?_ | refine V.condF rfl ?_ | refine V.skip rfl rfl ?_ | refine V.skipU rfl rfl rfl ?_ | refine V.pickT rfl rfl rfl rfl rfl ?_ | refine V.pickF rfl rfl rfl rfl rfl ?_ | refine V.step rfl ?_ | refine V.load rfl rfl rfl rfl rfl rfl ?_)); refine V.callIs rfl rfl rfl rfl rfl rfl (top_does w0 _ _ _ _ _ hat2 _) ?_; (repeat (first | refine V.stepY rfl ?_ | refine V.loadY rfl rfl rfl rfl rfl rfl ?_ | refine V.store rfl rfl rfl rfl rfl rfl rfl ?_ | refine V.condT rfl ?_ | refine V.condF rfl ?_ | refine V.skip rfl rfl ?_ | refine V.skipU rfl rfl rfl ?_ | refine V.pickT rfl rfl rfl rfl rfl ?_ | refine V.pickF rfl rfl rfl rfl rfl ?_ | refine V.step rfl ?_ | refine V.load rfl rfl rfl rfl rfl rfl ?_)); refine retC0 rfl rfl rfl rfl rfl rfl rfl ⟨?_, hle2, (by repeat (first | exact List.Sublist.refl _ | apply List.Sublist.cons))⟩; (refine agg_eq ?_ ?_ rfl <;> (simp [jn, sureB, easyB, quietB, KE.kind, KE.oper, KE.to, KE.n, KE.v, KE.l] <;> (try split) <;> (try omega)))
  · refine Does.is (Does.of_V (cfg w0 82 Tryz.f82 132 (RIs (.agg ⟨nrc _⟩) h L) Tryz.func82) rfl rfl rfl rfl rfl rfl ?_); (repeat (first | refine V.stepY rfl ?_ | refine V.loadY rfl rfl rfl rfl rfl rfl ?_ | refine V.store rfl rfl rfl rfl rfl rfl rfl ?_ | refine V.condT rfl ?_ | refine V.condF rfl ?_ | refine V.skip rfl rfl ?_ | refine V.skipU rfl rfl rfl ?_ | refine V.pickT rfl rfl rfl rfl rfl ?_ | refine V.pickF rfl rfl rfl rfl rfl ?_ | refine V.step rfl ?_ | refine V.load rfl rfl rfl rfl rfl rfl ?_)); refine V.box rfl rfl rfl rfl rfl rfl fun be => ?_; refine V.alloc rfl rfl rfl rfl rfl rfl fun bx => ?_; (repeat (first | refine V.stepY rfl ?_ | refine V.loadY rfl rfl rfl rfl rfl rfl ?_ | refine V.store rfl rfl rfl rfl rfl rfl rfl ?_ | refine V.condT rfl ?_ | refine V.condF rfl ?_ | refine V.skip rfl rfl ?_ | refine V.skipU rfl rfl rfl ?_ | refine V.pickT rfl rfl rfl rfl rfl ?_ | refine V.pickF rfl rfl rfl rfl rfl ?_ | refine V.step rfl ?_ | refine V.load rfl rfl rfl rfl rfl rfl ?_)); refine V.index rfl rfl rfl rfl rfl rfl (by decide) (by decide) ?_; refine V.loadHA rfl rfl rfl rfl rfl ha rfl rfl ?_; refine V.alloc rfl rfl rfl rfl rfl rfl fun bx => ?_; (repeat (first | refine V.stepY rfl ?_ | refine V.loadY rfl rfl rfl rfl rfl rfl ?_ | refine V.store rfl rfl rfl rfl rfl rfl rfl ?_ | refine V.condT rfl ?_ | refine V.condF rfl ?_ | refine V.skip rfl rfl ?_ | refine V.skipU rfl rfl rfl ?_ | refine V.pickT rfl rfl rfl rfl rfl ?_ | refine V.pickF rfl rfl rfl rfl rfl ?_ | refine V.step rfl ?_ | refine V.load rfl rfl rfl rfl rfl rfl ?_)); refine V.litP rfl rfl rfl rfl rfl rfl fun b2 h2' hle2 hat2 => ?_; (repeat (first | refine V.stepY rfl ?_ | refine V.loadY rfl rfl rfl rfl rfl rfl ?_ | refine V.store rfl rfl rfl rfl rfl rfl rfl ?_ | refine V.condT rfl ?_ | refine V.condF rfl ?_ | refine V.skip rfl rfl ?_ | refine V.skipU rfl rfl rfl ?_ | refine V.pickT rfl rfl rfl rfl rfl ?_ | refine V.pickF rfl rfl rfl rfl rfl ?_ | refine V.step rfl ?_ | refine V.load rfl rfl rfl rfl rfl rfl ?_)); refine V.callIs rfl rfl rfl rfl rfl rfl (top_does w0 _ _ _ _ _ hat2 _) ?_; (repeat (first | refine V.stepY rfl ?_ | refine V.loadY rfl rfl rfl rfl rfl rfl ?_ | refine V.store rfl rfl rfl rfl rfl rfl rfl ?_ | refine V.condT rfl ?_ | refine V.condF rfl ?_ | refine V.skip rfl rfl ?_ | refine V.skipU rfl rfl rfl ?_ | refine V.pickT rfl rfl rfl rfl rfl ?_ | refine V.pickF rfl rfl rfl rfl rfl ?_ | refine V.step rfl ?_ | refine V.load rfl rfl rfl rfl rfl rfl ?_)); refine retC0 rfl rfl rfl rfl rfl rfl rfl ⟨?_, hle2, (by repeat (first | exact List.Sublist.refl _ | apply List.Sublist.cons))⟩; (refine agg_eq ?_ ?_ rfl <;> (simp [jn, sureB, easyB, quietB, KE.kind, KE.oper, KE.to, KE.n, KE.v, KE.l] <;> (try split) <;> (try omega)))
  · refine Does.is (Does.of_V (cfg w0 82 Tryz.f82 132 (RIs (.agg ⟨nrc _⟩) h L) Tryz.func82) rfl rfl rfl rfl rfl rfl ?_); (repeat (first | refine V.stepY rfl ?_ | refine V.loadY rfl rfl rfl rfl rfl rfl ?_ | refine V.store rfl rfl rfl rfl rfl rfl rfl ?_ | refine V.condT rfl ?_ | refine V.condF rfl ?_ | refine V.skip rfl rfl ?_ | refine V.skipU rfl rfl rfl ?_ | refine V.pickT rfl rfl rfl rfl rfl ?_ | refine V.pickF rfl rfl rfl rfl rfl ?_ | refine V.step rfl ?_ | refine V.load rfl rfl rfl rfl rfl rfl ?_)); refine V.box rfl rfl rfl rfl rfl rfl fun be => ?_; refine V.alloc rfl rfl rfl rfl rfl rfl fun bx => ?_; (repeat (first | refine V.stepY rfl ?_ | refine V.loadY rfl rfl rfl rfl rfl rfl ?_ | refine V.store rfl rfl rfl rfl rfl rfl rfl ?_ | refine V.condT rfl ?_ | refine V.condF rfl ?_ | refine V.skip rfl rfl ?_ | refine V.skipU rfl rfl rfl ?_ | refine V.pickT rfl rfl rfl rfl rfl ?_ | refine V.pickF rfl rfl rfl rfl rfl ?_ | refine V.step rfl ?_ | refine V.load rfl rfl rfl rfl rfl rfl ?_)); refine V.index rfl rfl rfl rfl rfl rfl (by decide) (by decide) ?_; refine V.loadHA rfl rfl rfl rfl rfl ha rfl rfl ?_; refine V.alloc rfl rfl rfl rfl rfl rfl fun bx => ?_; (repeat (first | refine V.stepY rfl ?_ | refine V.loadY rfl rfl rfl rfl rfl rfl ?_ | refine V.store rfl rfl rfl rfl rfl rfl rfl ?_ | refine V.condT rfl ?_ | refine V.condF rfl ?_ | refine V.skip rfl rfl ?_ | refine V.skipU rfl rfl rfl ?_ | refine V.pickT rfl rfl rfl rfl rfl ?_ | refine V.pickF rfl rfl rfl rfl rfl ?_ | refine V.step rfl ?_ | refine V.load rfl rfl rfl rfl rfl rfl ?_)); refine V.litP rfl rfl rfl rfl rfl rfl fun b2 h2' hle2 hat2 => ?_; (repeat (first | refine V.stepY rfl ?_ | refine V.loadY rfl rfl rfl rfl rfl rfl ?_ | refine V.store rfl rfl rfl rfl rfl rfl rfl ?_ | refine V.condT rfl ?_ | refine V.condF rfl ?_ | refine V.skip rfl rfl ?_ | refine V.skipU rfl rfl rfl ?_ | refine V.pickT rfl rfl rfl rfl rfl ?_ | refine V.pickF rfl rfl rfl rfl rfl ?_ | refine V.step rfl ?_ | refine V.load rfl rfl rfl rfl rfl rfl ?_)); refine V.callIs rfl rfl rfl rfl rfl rfl (top_does w0 _ _ _ _ _ hat2 _) ?_; (repeat (first | refine V.stepY rfl ?_ | refine V.loadY rfl rfl rfl rfl rfl rfl ?_ | refine V.store rfl rfl rfl rfl rfl rfl rfl ?_ | refine V.condT rfl ?_ | refine V.condF rfl ?_ | refine V.skip rfl rfl ?_ | refine V.skipU rfl rfl rfl ?_ | refine V.pickT rfl rfl rfl rfl rfl ?_ | refine V.pickF rfl rfl rfl rfl rfl ?_ | refine V.step rfl ?_ | refine V.load rfl rfl rfl rfl rfl rfl ?_)); refine retC0 rfl rfl rfl rfl rfl rfl rfl ⟨?_, hle2, (by repeat (first | exact List.Sublist.refl _ | apply List.Sublist.cons))⟩; (refine agg_eq ?_ ?_ rfl <;> (simp [jn, sureB, easyB, quietB, KE.kind, KE.oper, KE.to, KE.n, KE.v, KE.l] <;> (try split) <;> (try omega)))
end Go.Proofs.YtgmeahcclogfmaaGreatDoor.S22
/-!
  Chapter 22: depth.join of two.
-/
namespace Go.Proofs.YtgmeahcclogfmaaGreatDoor.S22
open Go Go.Tp
set_option linter.unusedVariables false
set_option linter.unusedSimpArgs false
set_option maxRecDepth 100000
set_option maxHeartbeats 4000000
def YT (x y : Int) : Nat → List Value → Value → GH → Prop := yl [(17, fun _ v _ => v = .int .i64 x), (23, fun _ v _ => v = .int .i64 y)]
theorem join5_does (w0 : World) (h : GH) (hq : atH h 0 0 quietL) (L : List Ent) (o : Int) (h1 : 1 ≤ o) (h2 : o ≤ 22) (x y : NR) (hx : 0 ≤ x.regs ∧ x.regs ≤ 3 ∧ 0 ≤ x.temps ∧ x.temps ≤ 1000000) (hy : 0 ≤ y.regs ∧ y.regs ≤ 3 ∧ 0 ≤ y.temps ∧ y.temps ≤ 1000000) (p : Option Addr) (m q : Nat) (b of c : Nat) (ha : atH h b of (nrc x)) (hd : atH h b (of + 4) (nrc y)) :
    Does Tryz.prog w0 82 [.agg ⟨[.int .u8 5, .int .u8 o, .int .u8 0, .int .i32 0, .int .i64 0, .slice p m q]⟩, .slice (some ⟨b, of, none⟩) 2 c] h L (Is (.agg ⟨nrc (jn 5 o 0 0 0 [x, y])⟩) h L) := by
  obtain ⟨s, r, u⟩ := x
  obtain ⟨s', r', u'⟩ := y
  simp only at hx hy
  refine Does.is (Does.of_V (cfg w0 82 Tryz.f82 132 (RIs (.agg ⟨nrc _⟩) h L) Tryz.func82) rfl rfl rfl rfl rfl rfl ?_); (repeat (first | refine V.stepY rfl ?_ | refine V.loadY rfl rfl rfl rfl rfl rfl ?_ | refine V.store rfl rfl rfl rfl rfl rfl rfl ?_ | refine V.condT rfl ?_ | refine V.condF rfl ?_ | refine V.skip rfl rfl ?_ | refine V.skipU rfl rfl rfl ?_ | refine V.pickT rfl rfl rfl rfl rfl ?_ | refine V.pickF rfl rfl rfl rfl rfl ?_ | refine V.step rfl ?_ | refine V.load rfl rfl rfl rfl rfl rfl ?_)); refine V.box rfl rfl rfl rfl rfl rfl fun be => ?_; refine V.alloc rfl rfl rfl rfl rfl rfl fun bx => ?_; (repeat (first | refine V.stepY rfl ?_ | refine V.loadY rfl rfl rfl rfl rfl rfl ?_ | refine V.store rfl rfl rfl rfl rfl rfl rfl ?_ | refine V.condT rfl ?_ | refine V.condF rfl ?_ | refine V.skip rfl rfl ?_ | refine V.skipU rfl rfl rfl ?_ | refine V.pickT rfl rfl rfl rfl rfl ?_ | refine V.pickF rfl rfl rfl rfl rfl ?_ | refine V.step rfl ?_ | refine V.load rfl rfl rfl rfl rfl rfl ?_))
  refine V.draw 9 [6, 7, 0, 1, 2, 3, 4, 5, 8] (fun i => if i = 8 then [6] else []) (fun _ _ _ _ => False) (by kernel_rfl) (by kernel_rfl) ?_
  refine WE.alloc rfl rfl rfl rfl rfl rfl rfl rfl fun b7 => ?_
  refine WE.alloc rfl rfl rfl rfl rfl rfl rfl rfl fun b8 => ?_
  (repeat (first | refine WE.step rfl ?_ | refine WE.load rfl rfl rfl rfl rfl rfl rfl ?_)); refine WE.index rfl rfl rfl rfl rfl rfl rfl (by decide) (by decide) ?_; refine WE.loadHA rfl rfl rfl rfl rfl rfl ha rfl rfl ?_; (repeat (first | refine WE.step rfl ?_ | refine WE.load rfl rfl rfl rfl rfl rfl rfl ?_)); refine WE.index rfl rfl rfl rfl rfl rfl rfl (by decide) (by decide) ?_; refine WE.loadHA rfl rfl rfl rfl rfl rfl hd rfl rfl ?_
  refine WE.store rfl rfl rfl rfl rfl rfl rfl rfl rfl rfl rfl ?_
  refine WE.nilC [_, _] (_ :: _ :: _ :: _ :: _) rfl rfl ?_
  (repeat (first | refine V.stepY rfl ?_ | refine V.loadY rfl rfl rfl rfl rfl rfl ?_ | refine V.store rfl rfl rfl rfl rfl rfl rfl ?_ | refine V.condT rfl ?_ | refine V.condF rfl ?_ | refine V.skip rfl rfl ?_ | refine V.skipU rfl rfl rfl ?_ | refine V.pickT rfl rfl rfl rfl rfl ?_ | refine V.pickF rfl rfl rfl rfl rfl ?_ | refine V.step rfl ?_ | refine V.load rfl rfl rfl rfl rfl rfl ?_))
  refine V.draw 26 [25, 0, 1, 2, 3, 4, 5, 6, 7, 8, 9, 10, 11, 12, 13, 14, 15, 16, 18, 19, 20, 21, 22, 17, 23, 24] (fun i => if i = 17 then [16] else if i = 23 then [22] else []) (YT (max r r') (max u u')) (by kernel_rfl) (by kernel_rfl) ?_
  refine WE.alloc rfl rfl rfl rfl rfl rfl rfl rfl fun b9 => ?_
  (repeat (first | refine WE.step rfl ?_ | refine WE.load rfl rfl rfl rfl rfl rfl rfl ?_))
  refine WE.index rfl rfl rfl rfl rfl rfl rfl (by omega) (by omega) ?_
  refine WE.loadH rfl rfl rfl rfl rfl rfl (quiet_at (o := o) hq (by omega) (by omega)) rfl ?_
  (repeat (first | refine WE.step rfl ?_ | refine WE.load rfl rfl rfl rfl rfl rfl rfl ?_))
  refine WE.lit rfl rfl rfl rfl rfl rfl rfl rfl fun c1 => ?_
  (repeat (first | refine WE.step rfl ?_ | refine WE.load rfl rfl rfl rfl rfl rfl rfl ?_))
  refine WE.lit rfl rfl rfl rfl rfl rfl rfl rfl fun c2 => ?_
  refine WE.call rfl rfl rfl rfl rfl rfl rfl (fun L => (top_does w0 _ L r r' c1 (fun i v hv => GH.add_at h c1 0 _ hv) _).mono ?_) (fun v h2' y1 y2 y3 => ?_)
  · rintro v h' L' ⟨rfl, rfl, rfl⟩; exact ⟨rfl, GH.le_refl _, rfl⟩
  have y3 : v = .int .i64 (max r r') := y3
  subst y3
  refine WE.call rfl rfl rfl rfl rfl rfl rfl (fun L => (top_does w0 _ L u u' c2 (fun i v hv => GH.add_at h2' c2 0 _ hv) _).mono ?_) (fun v h3' z1 z2 z3 => ?_)
  · rintro v h' L' ⟨rfl, rfl, rfl⟩; exact ⟨rfl, GH.le_refl _, rfl⟩
  have z3 : v = .int .i64 (max u u') := z3
  subst z3
  (repeat (first | refine WE.step rfl ?_ | refine WE.load rfl rfl rfl rfl rfl rfl rfl ?_))
  refine WE.nilC [_] (_ :: _ :: _ :: _ :: _ :: _) rfl rfl ?_
  (repeat (first | refine V.stepY rfl ?_ | refine V.loadY rfl rfl rfl rfl rfl rfl ?_ | refine V.store rfl rfl rfl rfl rfl rfl rfl ?_ | refine V.condT rfl ?_ | refine V.condF rfl ?_ | refine V.skip rfl rfl ?_ | refine V.skipU rfl rfl rfl ?_ | refine V.pickT rfl rfl rfl rfl rfl ?_ | refine V.pickF rfl rfl rfl rfl rfl ?_ | refine V.step rfl ?_ | refine V.load rfl rfl rfl rfl rfl rfl ?_))
  have hsq : (decide (o ≥ 6) : Bool) = quietB o := by unfold quietB; rw [Bool.eq_iff_iff]; simp; omega
  have hle : h.le h3' := GH.le_trans y2 z2
  clear y1 z1
  refine V.cond rfl (fun hc => ?_) (fun hc => ?_)
  · (repeat (first | refine V.stepY rfl ?_ | refine V.loadY rfl rfl rfl rfl rfl rfl ?_ | refine V.store rfl rfl rfl rfl rfl rfl rfl ?_ | refine V.condT rfl ?_ | refine V.condF rfl ?_ | refine V.skip rfl rfl ?_ | refine V.skipU rfl rfl rfl ?_ | refine V.pickT rfl rfl rfl rfl rfl ?_ | refine V.pickF rfl rfl rfl rfl rfl ?_ | refine V.step rfl ?_ | refine V.load rfl rfl rfl rfl rfl rfl ?_)); refine retC0 rfl rfl rfl rfl rfl rfl rfl ⟨?_, hle, (by repeat (first | exact List.Sublist.refl _ | apply List.Sublist.cons))⟩
    have hc' : ¬ (o ≠ 20 ∧ o ≠ 21 ∧ r = r') := by rintro ⟨g1, g2, g3⟩; simp [g1, g2, g3] at hc
    have hc2 : ¬ (o ≠ 20 ∧ o ≠ 21 ∧ r = 3 ∧ r' = 3) := by rintro ⟨g1, g2, g3, g4⟩; exact hc' ⟨g1, g2, by omega⟩
    refine agg_eq ?_ ?_ ?_
    · simp [jn, sureB, KE.kind, KE.oper, KE.to, KE.n, KE.v, KE.l, hsq]
    · simp only [jn]; rw [if_neg hc']
    · simp only [jn]; rw [if_neg hc2]
  · (repeat (first | refine V.stepY rfl ?_ | refine V.loadY rfl rfl rfl rfl rfl rfl ?_ | refine V.store rfl rfl rfl rfl rfl rfl rfl ?_ | refine V.condT rfl ?_ | refine V.condF rfl ?_ | refine V.skip rfl rfl ?_ | refine V.skipU rfl rfl rfl ?_ | refine V.pickT rfl rfl rfl rfl rfl ?_ | refine V.pickF rfl rfl rfl rfl rfl ?_ | refine V.step rfl ?_ | refine V.load rfl rfl rfl rfl rfl rfl ?_))
    have hc' : o ≠ 20 ∧ o ≠ 21 ∧ r = r' := by
      simp at hc
      exact ⟨hc.1.1, hc.1.2, hc.2⟩
    refine V.cond rfl (fun hd => ?_) (fun hd => ?_)
    · simp at hd
      (repeat (first | refine V.stepY rfl ?_ | refine V.loadY rfl rfl rfl rfl rfl rfl ?_ | refine V.store rfl rfl rfl rfl rfl rfl rfl ?_ | refine V.condT rfl ?_ | refine V.condF rfl ?_ | refine V.skip rfl rfl ?_ | refine V.skipU rfl rfl rfl ?_ | refine V.pickT rfl rfl rfl rfl rfl ?_ | refine V.pickF rfl rfl rfl rfl rfl ?_ | refine V.step rfl ?_ | refine V.load rfl rfl rfl rfl rfl rfl ?_)); refine retC0 rfl rfl rfl rfl rfl rfl rfl ⟨?_, hle, (by repeat (first | exact List.Sublist.refl _ | apply List.Sublist.cons))⟩
      have hc2 : ¬ (o ≠ 20 ∧ o ≠ 21 ∧ r = 3 ∧ r' = 3) := by rintro ⟨g1, g2, g3, g4⟩; omega
      refine agg_eq ?_ ?_ ?_
      · simp [jn, sureB, KE.kind, KE.oper, KE.to, KE.n, KE.v, KE.l, hsq]
      · simp only [jn]; rw [if_pos hc', wr64 _ (by omega)]; omega
      · simp only [jn]; rw [if_neg hc2]
    · simp at hd
      (repeat (first | refine V.stepY rfl ?_ | refine V.loadY rfl rfl rfl rfl rfl rfl ?_ | refine V.store rfl rfl rfl rfl rfl rfl rfl ?_ | refine V.condT rfl ?_ | refine V.condF rfl ?_ | refine V.skip rfl rfl ?_ | refine V.skipU rfl rfl rfl ?_ | refine V.pickT rfl rfl rfl rfl rfl ?_ | refine V.pickF rfl rfl rfl rfl rfl ?_ | refine V.step rfl ?_ | refine V.load rfl rfl rfl rfl rfl rfl ?_))
      refine V.val 103 rfl (int64_eq (wr64 (u + 1) (by omega))) ?_
      refine V.litP rfl rfl rfl rfl rfl rfl fun b2 h2'' hle2 hat2 => ?_; (repeat (first | refine V.stepY rfl ?_ | refine V.loadY rfl rfl rfl rfl rfl rfl ?_ | refine V.store rfl rfl rfl rfl rfl rfl rfl ?_ | refine V.condT rfl ?_ | refine V.condF rfl ?_ | refine V.skip rfl rfl ?_ | refine V.skipU rfl rfl rfl ?_ | refine V.pickT rfl rfl rfl rfl rfl ?_ | refine V.pickF rfl rfl rfl rfl rfl ?_ | refine V.step rfl ?_ | refine V.load rfl rfl rfl rfl rfl rfl ?_)); refine V.callIs rfl rfl rfl rfl rfl rfl (top_does w0 _ _ _ _ _ hat2 _) ?_; (repeat (first | refine V.stepY rfl ?_ | refine V.loadY rfl rfl rfl rfl rfl rfl ?_ | refine V.store rfl rfl rfl rfl rfl rfl rfl ?_ | refine V.condT rfl ?_ | refine V.condF rfl ?_ | refine V.skip rfl rfl ?_ | refine V.skipU rfl rfl rfl ?_ | refine V.pickT rfl rfl rfl rfl rfl ?_ | refine V.pickF rfl rfl rfl rfl rfl ?_ | refine V.step rfl ?_ | refine V.load rfl rfl rfl rfl rfl rfl ?_))
      refine retC0 rfl rfl rfl rfl rfl rfl rfl ⟨?_, GH.le_trans hle hle2, (by repeat (first | exact List.Sublist.refl _ | apply List.Sublist.cons))⟩
      have hc2 : (o ≠ 20 ∧ o ≠ 21 ∧ r = 3 ∧ r' = 3) := ⟨hc'.1, hc'.2.1, by omega, by omega⟩
      refine agg_eq ?_ ?_ ?_
      · simp [jn, sureB, KE.kind, KE.oper, KE.to, KE.n, KE.v, KE.l, hsq]
      · simp only [jn]; rw [if_pos hc']; omega
      · simp only [jn]; rw [if_pos hc2]
theorem joinA_does (w0 : World) (h : GH) (hq : atH h 0 0 quietL) (L : List Ent) (k o t n v : Int) (a : KE) (x : NR) (hf : fine ⟨k, o, t, n, v, [a]⟩ = true) (p : Option Addr) (m q : Nat) (b of c : Nat) (ha : atH h b of (nrc x)) :
    Does Tryz.prog w0 82 [.agg ⟨[.int .u8 k, .int .u8 o, .int .u8 t, .int .i32 n, .int .i64 v, .slice p m q]⟩, .slice (some ⟨b, of, none⟩) 1 c] h L (Is (.agg ⟨nrc (jn k o t n v [x])⟩) h L) := by
  rcases fine_cases hf with ⟨_, h9⟩ | ⟨_, _, _, h9⟩ | ⟨_, _, h1, h2, h3, h9⟩ | ⟨_, _, h1, h2, h3, h9⟩ | ⟨_, _, _, _, _, _, _, h9⟩ | ⟨_, _, h1, h2, h3, h9⟩ <;> simp at h9
  · obtain ⟨rfl, rfl, rfl, rfl, rfl, rfl⟩ := h9; exact join3_does w0 h L _ x p m q b of c ha
  · obtain ⟨rfl, rfl, rfl, rfl, rfl, rfl⟩ := h9; exact join4_does w0 h hq L _ h1 h2 x p m q b of c ha
  · obtain ⟨rfl, rfl, rfl, rfl, rfl, rfl⟩ := h9; exact join6_does w0 h L _ h1 h2 x p m q b of c ha
theorem joinB_does (w0 : World) (h : GH) (hq : atH h 0 0 quietL) (L : List Ent) (k o t n v : Int) (a d : KE) (x y : NR) (hx : 0 ≤ x.regs ∧ x.regs ≤ 3 ∧ 0 ≤ x.temps ∧ x.temps ≤ 1000000) (hy : 0 ≤ y.regs ∧ y.regs ≤ 3 ∧ 0 ≤ y.temps ∧ y.temps ≤ 1000000)
    (hf : fine ⟨k, o, t, n, v, [a, d]⟩ = true) (p : Option Addr) (m q : Nat) (b of c : Nat) (ha : atH h b of (nrc x)) (hd : atH h b (of + 4) (nrc y)) :
    Does Tryz.prog w0 82 [.agg ⟨[.int .u8 k, .int .u8 o, .int .u8 t, .int .i32 n, .int .i64 v, .slice p m q]⟩, .slice (some ⟨b, of, none⟩) 2 c] h L (Is (.agg ⟨nrc (jn k o t n v [x, y])⟩) h L) := by
  rcases fine_cases hf with ⟨_, h9⟩ | ⟨_, _, _, h9⟩ | ⟨_, _, h1, h2, h3, h9⟩ | ⟨_, _, h1, h2, h3, h9⟩ | ⟨_, _, _, h1, h2, _, _, h9⟩ | ⟨_, _, h1, h2, h3, h9⟩ <;> simp at h9
  obtain ⟨rfl, rfl, rfl, rfl, rfl, rfl, rfl⟩ := h9; exact join5_does w0 h hq L _ h1 h2 x y hx hy p m q b of c ha hd
theorem joinZ_does (w0 : World) (h : GH) (L : List Ent) (k o t n v : Int) (hf : fine ⟨k, o, t, n, v, []⟩ = true) (a' : Option Addr) (c1 : Nat) (a : Option Addr) (c : Nat) :
    Does Tryz.prog w0 82 [.agg ⟨[.int .u8 k, .int .u8 o, .int .u8 t, .int .i32 n, .int .i64 v, .slice a' 0 c1]⟩, .slice a 0 c] h L (Is (.agg ⟨nrc (jn k o t n v [])⟩) h L) := by
  have := join0_does w0 h L k o t n v a' c1 a c
  have hs : jn k o t n v [] = ⟨true, 1, 0⟩ := by
    rcases fine_cases hf with ⟨_, h9⟩ | ⟨_, _, _, h9⟩ | ⟨_, _, h1, h2, h3, h9⟩ | ⟨_, _, h1, h2, h3, h9⟩ | ⟨_, _, _, h1, h2, _, _, h9⟩ | ⟨_, _, h1, h2, h3, h9⟩ <;> simp at h9
    · obtain ⟨rfl, rfl, rfl, _⟩ := h9; simp [jn, sureB, KE.kind, KE.oper, KE.to, KE.n, KE.v, KE.l]
    · obtain ⟨rfl, rfl, rfl, _⟩ := h9; simp [jn, sureB, KE.kind, KE.oper, KE.to, KE.n, KE.v, KE.l]
  rw [hs]; exact this
end Go.Proofs.YtgmeahcclogfmaaGreatDoor.S22
/-!
  Chapter 22: the walk of measure.
-/
namespace Go.Proofs.YtgmeahcclogfmaaGreatDoor.S22
open Go Go.Tp
set_option linter.unusedVariables false
set_option linter.unusedSimpArgs false
set_option maxRecDepth 100000
set_option maxHeartbeats 4000000
def RL (Q : Value → GH → List Ent → Prop) : Value → GH → List Ent → Prop := fun v h' L' => ∃ L'', L''.Sublist L' ∧ Q v h' L''
def zeros : List Value := [.bool false, .bool false, .int .i64 0, .int .i64 0]
def walkR (e : KE) (room deep : Int) (rb : Nat) (h : GH) (L : List Ent) : Value → GH → List Ent → Prop := fun v h' L' => h.le h' ∧ ∃ room' : Int, L' = ⟨rb, 0, [.int .i64 room'], none⟩ :: L ∧
  if fits e room (33 - deep) then v = .agg ⟨nrc (ne e)⟩ ∧ room' = room - sz e else v = .agg ⟨zeros⟩
def WH (h : GH) (rb wb : Nat) : Prop := atH h 0 0 quietL ∧ h wb 0 = some (.func (.func 80) #[] #[.pointer (some ⟨rb, 0, none⟩), .pointer (some ⟨wb, 0, none⟩)])
theorem WH.mono {h h' : GH} {rb wb : Nat} (x : WH h rb wb) (hl : h.le h') : WH h' rb wb := ⟨x.1.mono hl, hl _ _ _ x.2⟩
theorem fitsZ {k o t n v : Int} {room deep : Int} (hs : shapeB ⟨k, o, t, n, v, []⟩ = true) (h1 : 1 ≤ room) (h2 : 1 ≤ deep) : fits ⟨k, o, t, n, v, []⟩ room deep := by
  simp only [fits, fine, finel, hs, sz, szl, ht, htl, Bool.true_and]
  exact ⟨trivial, by omega, by omega⟩
theorem walk_no {e : KE} {room deep : Int} {rb : Nat} {h h' : GH} {L : List Ent} {room' : Int} (hl : h.le h') (hf : ¬ fits e room (33 - deep)) : walkR e room deep rb h L (.agg ⟨zeros⟩) h' (⟨rb, 0, [.int .i64 room'], none⟩ :: L) :=
  ⟨hl, room', rfl, by rw [if_neg hf]⟩
theorem walk_yes {e : KE} {room deep : Int} {rb : Nat} {h h' : GH} {L : List Ent} {room' : Int} (hl : h.le h') (hf : fits e room (33 - deep)) (hr : room' = room - sz e) : walkR e room deep rb h L (.agg ⟨nrc (ne e)⟩) h' (⟨rb, 0, [.int .i64 room'], none⟩ :: L) :=
  ⟨hl, room', rfl, by rw [if_pos hf]; exact ⟨rfl, hr⟩⟩
theorem at2 {h : GH} {b o : Nat} {x y : NR} (h6 : atH h b o (nrc x ++ nrc y)) : atH h b o (nrc x) ∧ atH h b (o + 4) (nrc y) := by
  refine ⟨fun i v hv => h6 i v ?_, fun i v hv => ?_⟩
  · have hi : i < (nrc x).length := by
      rcases Nat.lt_or_ge i (nrc x).length with g | g
      · exact g
      · rw [List.getElem?_eq_none g] at hv; cases hv
    rw [List.getElem?_append_left hi]; exact hv
  · have := h6 (4 + i) v (by
      rw [List.getElem?_append_right (show (nrc x).length ≤ 4 + i from Nat.le_add_right 4 i)]
      rw [show 4 + i - (nrc x).length = i from Nat.add_sub_cancel_left 4 i]; exact hv)
    rwa [← Nat.add_assoc] at this
theorem walk_does (w0 : World) (rb wb : Nat) : ∀ (N : Nat) (e : KE) (cs : List Value) (h : GH) (L : List Ent) (room deep : Int), sz e ≤ N → RK h e cs → WH h rb wb → 0 ≤ room → room ≤ 256 → 1 ≤ deep → deep ≤ 33 →
    Does Tryz.prog w0 80 [.agg ⟨cs⟩, .int .i64 deep, .pointer (some ⟨rb, 0, none⟩), .pointer (some ⟨wb, 0, none⟩)] h (⟨rb, 0, [.int .i64 room], none⟩ :: L) (walkR e room deep rb h L)
  | 0, e, cs, h, L, room, deep, hn, _, _, _, _, _, _ => by have := sz_pos e; omega
  | N + 1, e, cs, h, L, room, deep, hn, hr, hw, r0, r1, d0, d1 => by
    have hr' := hr
    have hw1 : IntKind.i64.wrap (room - 1) = room - 1 := wr64 _ (by omega)
    have hw2 : IntKind.i64.wrap (deep + 1) = deep + 1 := wr64 _ (by omega)
    by_cases hs : shapeB e = true
    · rcases shape_cases hs with ⟨k, o, t, n, v, rfl⟩ | ⟨k, o, t, n, v, a, rfl⟩ | ⟨k, o, t, n, v, a, b, rfl⟩
      · obtain ⟨a', cap, rfl⟩ := RK_p0 hr
        refine Does.resL (Does.of_V (cfg w0 80 Tryz.f80 49 (RL (walkR _ room deep rb h L)) Tryz.func80) rfl rfl rfl rfl rfl rfl ?_); (repeat (first | refine V.step rfl ?_ | refine V.load rfl rfl rfl rfl rfl rfl ?_ | refine V.store rfl rfl rfl rfl rfl rfl rfl ?_ | refine V.condT rfl ?_ | refine V.condF rfl ?_)); refine V.box rfl rfl rfl rfl rfl rfl fun be => ?_; refine V.alloc rfl rfl rfl rfl rfl rfl fun bx => ?_; (repeat (first | refine V.step rfl ?_ | refine V.load rfl rfl rfl rfl rfl rfl ?_ | refine V.store rfl rfl rfl rfl rfl rfl rfl ?_ | refine V.condT rfl ?_ | refine V.condF rfl ?_))
        refine V.split 19 rfl (fun hc => (by simp at hc; (repeat (first | refine V.stepY rfl ?_ | refine V.loadY rfl rfl rfl rfl rfl rfl ?_ | refine V.store rfl rfl rfl rfl rfl rfl rfl ?_ | refine V.condT rfl ?_ | refine V.condF rfl ?_ | refine V.skip rfl rfl ?_ | refine V.skipU rfl rfl rfl ?_ | refine V.pickT rfl rfl rfl rfl rfl ?_ | refine V.pickF rfl rfl rfl rfl rfl ?_ | refine V.step rfl ?_ | refine V.load rfl rfl rfl rfl rfl rfl ?_)); refine retC0 rfl rfl rfl rfl rfl rfl rfl ⟨⟨rb, 0, [.int .i64 _], none⟩ :: L, (by repeat (first | exact List.Sublist.refl _ | apply List.Sublist.cons_cons | apply List.Sublist.cons)), ?_⟩; exact walk_no (GH.le_refl _) (fits_not (by omega)))) (fun hc => ?_); (simp at hc); (repeat (first | refine V.stepY rfl ?_ | refine V.loadY rfl rfl rfl rfl rfl rfl ?_ | refine V.store rfl rfl rfl rfl rfl rfl rfl ?_ | refine V.condT rfl ?_ | refine V.condF rfl ?_ | refine V.skip rfl rfl ?_ | refine V.skipU rfl rfl rfl ?_ | refine V.pickT rfl rfl rfl rfl rfl ?_ | refine V.pickF rfl rfl rfl rfl rfl ?_ | refine V.step rfl ?_ | refine V.load rfl rfl rfl rfl rfl rfl ?_)); refine V.callIs rfl rfl rfl rfl rfl rfl (plain_does w0 h _ _ _ hr') ?_; (repeat (first | refine V.stepY rfl ?_ | refine V.loadY rfl rfl rfl rfl rfl rfl ?_ | refine V.store rfl rfl rfl rfl rfl rfl rfl ?_ | refine V.condT rfl ?_ | refine V.condF rfl ?_ | refine V.skip rfl rfl ?_ | refine V.skipU rfl rfl rfl ?_ | refine V.pickT rfl rfl rfl rfl rfl ?_ | refine V.pickF rfl rfl rfl rfl rfl ?_ | refine V.step rfl ?_ | refine V.load rfl rfl rfl rfl rfl rfl ?_))
        have hff := fitsZ (room := room) (deep := 33 - deep) hs (by omega) (by omega)
        refine V.cond rfl (fun hd => (by simp [hs] at hd)) (fun hd => ?_)
        (repeat (first | refine V.stepY rfl ?_ | refine V.loadY rfl rfl rfl rfl rfl rfl ?_ | refine V.store rfl rfl rfl rfl rfl rfl rfl ?_ | refine V.condT rfl ?_ | refine V.condF rfl ?_ | refine V.skip rfl rfl ?_ | refine V.skipU rfl rfl rfl ?_ | refine V.pickT rfl rfl rfl rfl rfl ?_ | refine V.pickF rfl rfl rfl rfl rfl ?_ | refine V.step rfl ?_ | refine V.load rfl rfl rfl rfl rfl rfl ?_)); refine V.loop1 ?_; (repeat (first | refine V.stepY rfl ?_ | refine V.loadY rfl rfl rfl rfl rfl rfl ?_ | refine V.store rfl rfl rfl rfl rfl rfl rfl ?_ | refine V.condT rfl ?_ | refine V.condF rfl ?_ | refine V.skip rfl rfl ?_ | refine V.skipU rfl rfl rfl ?_ | refine V.pickT rfl rfl rfl rfl rfl ?_ | refine V.pickF rfl rfl rfl rfl rfl ?_ | refine V.step rfl ?_ | refine V.load rfl rfl rfl rfl rfl rfl ?_))
        refine V.callIs rfl rfl rfl rfl rfl rfl (joinZ_does w0 h _ k o t n v hff.1 _ _ _ _) ?_; (repeat (first | refine V.stepY rfl ?_ | refine V.loadY rfl rfl rfl rfl rfl rfl ?_ | refine V.store rfl rfl rfl rfl rfl rfl rfl ?_ | refine V.condT rfl ?_ | refine V.condF rfl ?_ | refine V.skip rfl rfl ?_ | refine V.skipU rfl rfl rfl ?_ | refine V.pickT rfl rfl rfl rfl rfl ?_ | refine V.pickF rfl rfl rfl rfl rfl ?_ | refine V.step rfl ?_ | refine V.load rfl rfl rfl rfl rfl rfl ?_))
        refine retC0 rfl rfl rfl rfl rfl rfl rfl ⟨⟨rb, 0, [.int .i64 _], none⟩ :: L, (by repeat (first | exact List.Sublist.refl _ | apply List.Sublist.cons_cons | apply List.Sublist.cons)), ?_⟩; exact walk_yes (GH.le_refl _) hff (by simp [sz, szl, hw1])
      · obtain ⟨bb, off, cap, ca, rfl, g1, g2, g3⟩ := RK_p1 hr
        obtain ⟨ak, ao, at', an, av, aa, am, ac, rfl⟩ := RK_c g2
        simp only [sz, szl] at hn
        refine Does.resL (Does.of_V (cfg w0 80 Tryz.f80 49 (RL (walkR _ room deep rb h L)) Tryz.func80) rfl rfl rfl rfl rfl rfl ?_); (repeat (first | refine V.step rfl ?_ | refine V.load rfl rfl rfl rfl rfl rfl ?_ | refine V.store rfl rfl rfl rfl rfl rfl rfl ?_ | refine V.condT rfl ?_ | refine V.condF rfl ?_)); refine V.box rfl rfl rfl rfl rfl rfl fun be => ?_; refine V.alloc rfl rfl rfl rfl rfl rfl fun bx => ?_; (repeat (first | refine V.step rfl ?_ | refine V.load rfl rfl rfl rfl rfl rfl ?_ | refine V.store rfl rfl rfl rfl rfl rfl rfl ?_ | refine V.condT rfl ?_ | refine V.condF rfl ?_))
        refine V.split 19 rfl (fun hc => (by simp at hc; (repeat (first | refine V.stepY rfl ?_ | refine V.loadY rfl rfl rfl rfl rfl rfl ?_ | refine V.store rfl rfl rfl rfl rfl rfl rfl ?_ | refine V.condT rfl ?_ | refine V.condF rfl ?_ | refine V.skip rfl rfl ?_ | refine V.skipU rfl rfl rfl ?_ | refine V.pickT rfl rfl rfl rfl rfl ?_ | refine V.pickF rfl rfl rfl rfl rfl ?_ | refine V.step rfl ?_ | refine V.load rfl rfl rfl rfl rfl rfl ?_)); refine retC0 rfl rfl rfl rfl rfl rfl rfl ⟨⟨rb, 0, [.int .i64 _], none⟩ :: L, (by repeat (first | exact List.Sublist.refl _ | apply List.Sublist.cons_cons | apply List.Sublist.cons)), ?_⟩; exact walk_no (GH.le_refl _) (fits_not (by omega)))) (fun hc => ?_); (simp at hc); (repeat (first | refine V.stepY rfl ?_ | refine V.loadY rfl rfl rfl rfl rfl rfl ?_ | refine V.store rfl rfl rfl rfl rfl rfl rfl ?_ | refine V.condT rfl ?_ | refine V.condF rfl ?_ | refine V.skip rfl rfl ?_ | refine V.skipU rfl rfl rfl ?_ | refine V.pickT rfl rfl rfl rfl rfl ?_ | refine V.pickF rfl rfl rfl rfl rfl ?_ | refine V.step rfl ?_ | refine V.load rfl rfl rfl rfl rfl rfl ?_)); refine V.callIs rfl rfl rfl rfl rfl rfl (plain_does w0 h _ _ _ hr') ?_; (repeat (first | refine V.stepY rfl ?_ | refine V.loadY rfl rfl rfl rfl rfl rfl ?_ | refine V.store rfl rfl rfl rfl rfl rfl rfl ?_ | refine V.condT rfl ?_ | refine V.condF rfl ?_ | refine V.skip rfl rfl ?_ | refine V.skipU rfl rfl rfl ?_ | refine V.pickT rfl rfl rfl rfl rfl ?_ | refine V.pickF rfl rfl rfl rfl rfl ?_ | refine V.step rfl ?_ | refine V.load rfl rfl rfl rfl rfl rfl ?_))
        have hf1 : fits ⟨k, o, t, n, v, [a]⟩ room (33 - deep) ↔ fits a (IntKind.i64.wrap (room - 1)) (33 - IntKind.i64.wrap (deep + 1)) := by
          rw [fits1 hs, hw1, hw2, show (33 : Int) - (deep + 1) = 33 - deep - 1 by omega]
        refine V.cond rfl (fun hd => (by simp [hs] at hd)) (fun hd => ?_)
        refine V.empty ?_
        (repeat (first | refine V.stepY rfl ?_ | refine V.loadY rfl rfl rfl rfl rfl rfl ?_ | refine V.store rfl rfl rfl rfl rfl rfl rfl ?_ | refine V.condT rfl ?_ | refine V.condF rfl ?_ | refine V.skip rfl rfl ?_ | refine V.skipU rfl rfl rfl ?_ | refine V.pickT rfl rfl rfl rfl rfl ?_ | refine V.pickF rfl rfl rfl rfl rfl ?_ | refine V.step rfl ?_ | refine V.load rfl rfl rfl rfl rfl rfl ?_)); refine V.loop1 ?_; (repeat (first | refine V.stepY rfl ?_ | refine V.loadY rfl rfl rfl rfl rfl rfl ?_ | refine V.store rfl rfl rfl rfl rfl rfl rfl ?_ | refine V.condT rfl ?_ | refine V.condF rfl ?_ | refine V.skip rfl rfl ?_ | refine V.skipU rfl rfl rfl ?_ | refine V.pickT rfl rfl rfl rfl rfl ?_ | refine V.pickF rfl rfl rfl rfl rfl ?_ | refine V.step rfl ?_ | refine V.load rfl rfl rfl rfl rfl rfl ?_))
        refine V.index rfl rfl rfl rfl rfl rfl (by decide) (by decide) ?_; refine V.loadHA rfl rfl rfl rfl rfl g1 g3 rfl ?_; refine V.alloc rfl rfl rfl rfl rfl rfl fun b9 => ?_; (repeat (first | refine V.stepY rfl ?_ | refine V.loadY rfl rfl rfl rfl rfl rfl ?_ | refine V.store rfl rfl rfl rfl rfl rfl rfl ?_ | refine V.condT rfl ?_ | refine V.condF rfl ?_ | refine V.skip rfl rfl ?_ | refine V.skipU rfl rfl rfl ?_ | refine V.pickT rfl rfl rfl rfl rfl ?_ | refine V.pickF rfl rfl rfl rfl rfl ?_ | refine V.step rfl ?_ | refine V.load rfl rfl rfl rfl rfl rfl ?_))
        refine V.loadH rfl rfl rfl rfl rfl hw.2 rfl ?_; (repeat (first | refine V.stepY rfl ?_ | refine V.loadY rfl rfl rfl rfl rfl rfl ?_ | refine V.store rfl rfl rfl rfl rfl rfl rfl ?_ | refine V.condT rfl ?_ | refine V.condF rfl ?_ | refine V.skip rfl rfl ?_ | refine V.skipU rfl rfl rfl ?_ | refine V.pickT rfl rfl rfl rfl rfl ?_ | refine V.pickF rfl rfl rfl rfl rfl ?_ | refine V.step rfl ?_ | refine V.load rfl rfl rfl rfl rfl rfl ?_))
        refine V.perm (L' := ⟨rb, 0, [.int .i64 (IntKind.i64.wrap (room - 1))], none⟩ :: _ :: _ :: _ :: _ :: L) (List.perm_middle (l₁ := [_, _, _, _]) (l₂ := L)) ?_
        refine V.call rfl rfl rfl rfl rfl rfl (walk_does w0 rb wb N a _ h _ _ _ (by omega) g2 hw (by omega) (by omega) (by omega) (by omega)) ?_
        rintro v1 h1 L1 ⟨hle1, room1, rfl, hv1⟩
        by_cases hfa : fits a (IntKind.i64.wrap (room - 1)) (33 - IntKind.i64.wrap (deep + 1))
        · rw [if_pos hfa] at hv1
          obtain ⟨rfl, hro⟩ := hv1
          refine V.alloc rfl rfl rfl rfl rfl rfl fun b10 => ?_; (repeat (first | refine V.stepY rfl ?_ | refine V.loadY rfl rfl rfl rfl rfl rfl ?_ | refine V.store rfl rfl rfl rfl rfl rfl rfl ?_ | refine V.condT rfl ?_ | refine V.condF rfl ?_ | refine V.skip rfl rfl ?_ | refine V.skipU rfl rfl rfl ?_ | refine V.pickT rfl rfl rfl rfl rfl ?_ | refine V.pickF rfl rfl rfl rfl rfl ?_ | refine V.step rfl ?_ | refine V.load rfl rfl rfl rfl rfl rfl ?_))
          (refine V.litP rfl rfl rfl rfl rfl rfl fun c1 h2 hle2 hat2 => ?_; (repeat (first | refine V.stepY rfl ?_ | refine V.loadY rfl rfl rfl rfl rfl rfl ?_ | refine V.store rfl rfl rfl rfl rfl rfl rfl ?_ | refine V.condT rfl ?_ | refine V.condF rfl ?_ | refine V.skip rfl rfl ?_ | refine V.skipU rfl rfl rfl ?_ | refine V.pickT rfl rfl rfl rfl rfl ?_ | refine V.pickF rfl rfl rfl rfl rfl ?_ | refine V.step rfl ?_ | refine V.load rfl rfl rfl rfl rfl rfl ?_)); refine V.perm (L' := ⟨0, 0, [], none⟩ :: _ :: _ :: _ :: _ :: _ :: L) (List.perm_middle (l₁ := [_, _, _]) (l₂ := _ :: _ :: L)) ?_; have ha2 : Sl h2 4 (.slice (some ⟨c1, 0, none⟩) 1 1) (nrc (ne a)) := Sl.of (Nat.le_refl _) rfl hat2; refine V.appendN 1 rfl rfl rfl rfl rfl rfl rfl rfl rfl rfl rfl rfl (Sl.nil h2 4) (Tl.nil 4) ha2 (by simp only [nrc, List.length_cons, List.length_nil]; omega) rfl (by decide) ?_; intro jb jo cc h3 x2 hle3 hcc hat3 tl2; (repeat (first | refine V.stepY rfl ?_ | refine V.loadY rfl rfl rfl rfl rfl rfl ?_ | refine V.store rfl rfl rfl rfl rfl rfl rfl ?_ | refine V.condT rfl ?_ | refine V.condF rfl ?_ | refine V.skip rfl rfl ?_ | refine V.skipU rfl rfl rfl ?_ | refine V.pickT rfl rfl rfl rfl rfl ?_ | refine V.pickF rfl rfl rfl rfl rfl ?_ | refine V.step rfl ?_ | refine V.load rfl rfl rfl rfl rfl rfl ?_)))
          have hff := hf1.2 hfa
          refine V.again ?_; (repeat (first | refine V.stepY rfl ?_ | refine V.loadY rfl rfl rfl rfl rfl rfl ?_ | refine V.store rfl rfl rfl rfl rfl rfl rfl ?_ | refine V.condT rfl ?_ | refine V.condF rfl ?_ | refine V.skip rfl rfl ?_ | refine V.skipU rfl rfl rfl ?_ | refine V.pickT rfl rfl rfl rfl rfl ?_ | refine V.pickF rfl rfl rfl rfl rfl ?_ | refine V.step rfl ?_ | refine V.load rfl rfl rfl rfl rfl rfl ?_))
          have hlt := GH.le_trans hle1 (GH.le_trans hle2 hle3)
          have key : walkR ⟨k, o, t, n, v, [a]⟩ room deep rb h L (.agg ⟨nrc (jn k o t n v [ne a])⟩) h3 (⟨rb, 0, [.int .i64 room1], none⟩ :: L) := by
            rw [show jn k o t n v [ne a] = ne ⟨k, o, t, n, v, [a]⟩ by simp only [ne, nel]]
            exact walk_yes hlt hff (by simp only [sz, szl]; omega)
          refine V.callIs rfl rfl rfl rfl rfl rfl (joinA_does w0 h3 (hw.1.mono hlt) _ k o t n v a (ne a) hff.1 (some ⟨bb, off, none⟩) 1 cap jb jo cc hat3) ?_; (repeat (first | refine V.stepY rfl ?_ | refine V.loadY rfl rfl rfl rfl rfl rfl ?_ | refine V.store rfl rfl rfl rfl rfl rfl rfl ?_ | refine V.condT rfl ?_ | refine V.condF rfl ?_ | refine V.skip rfl rfl ?_ | refine V.skipU rfl rfl rfl ?_ | refine V.pickT rfl rfl rfl rfl rfl ?_ | refine V.pickF rfl rfl rfl rfl rfl ?_ | refine V.step rfl ?_ | refine V.load rfl rfl rfl rfl rfl rfl ?_))
          refine retC0 rfl rfl rfl rfl rfl rfl rfl ⟨⟨rb, 0, [.int .i64 _], none⟩ :: L, (by repeat (first | exact List.Sublist.refl _ | apply List.Sublist.cons_cons | apply List.Sublist.cons)), ?_⟩; exact key
        · rw [if_neg hfa] at hv1
          subst hv1
          refine V.alloc rfl rfl rfl rfl rfl rfl fun b10 => ?_; (repeat (first | refine V.stepY rfl ?_ | refine V.loadY rfl rfl rfl rfl rfl rfl ?_ | refine V.store rfl rfl rfl rfl rfl rfl rfl ?_ | refine V.condT rfl ?_ | refine V.condF rfl ?_ | refine V.skip rfl rfl ?_ | refine V.skipU rfl rfl rfl ?_ | refine V.pickT rfl rfl rfl rfl rfl ?_ | refine V.pickF rfl rfl rfl rfl rfl ?_ | refine V.step rfl ?_ | refine V.load rfl rfl rfl rfl rfl rfl ?_))
          refine retC0 rfl rfl rfl rfl rfl rfl rfl ⟨⟨rb, 0, [.int .i64 _], none⟩ :: L, (by repeat (first | exact List.Sublist.refl _ | apply List.Sublist.cons_cons | apply List.Sublist.cons)), ?_⟩; exact walk_no hle1 (fun hh => hfa (hf1.1 hh))
      · obtain ⟨bb, off, cap, ca, cb, rfl, g1, g2, g3, g4, g5, g6⟩ := RK_p2 hr
        obtain ⟨ak, ao, at', an, av, aa, am, ac, rfl⟩ := RK_c g2
        obtain ⟨bk, bo, bt, bn, bv, ba, bm, bc, rfl⟩ := RK_c g5
        simp only [sz, szl] at hn
        refine Does.resL (Does.of_V (cfg w0 80 Tryz.f80 49 (RL (walkR _ room deep rb h L)) Tryz.func80) rfl rfl rfl rfl rfl rfl ?_); (repeat (first | refine V.step rfl ?_ | refine V.load rfl rfl rfl rfl rfl rfl ?_ | refine V.store rfl rfl rfl rfl rfl rfl rfl ?_ | refine V.condT rfl ?_ | refine V.condF rfl ?_)); refine V.box rfl rfl rfl rfl rfl rfl fun be => ?_; refine V.alloc rfl rfl rfl rfl rfl rfl fun bx => ?_; (repeat (first | refine V.step rfl ?_ | refine V.load rfl rfl rfl rfl rfl rfl ?_ | refine V.store rfl rfl rfl rfl rfl rfl rfl ?_ | refine V.condT rfl ?_ | refine V.condF rfl ?_))
        refine V.split 19 rfl (fun hc => (by simp at hc; (repeat (first | refine V.stepY rfl ?_ | refine V.loadY rfl rfl rfl rfl rfl rfl ?_ | refine V.store rfl rfl rfl rfl rfl rfl rfl ?_ | refine V.condT rfl ?_ | refine V.condF rfl ?_ | refine V.skip rfl rfl ?_ | refine V.skipU rfl rfl rfl ?_ | refine V.pickT rfl rfl rfl rfl rfl ?_ | refine V.pickF rfl rfl rfl rfl rfl ?_ | refine V.step rfl ?_ | refine V.load rfl rfl rfl rfl rfl rfl ?_)); refine retC0 rfl rfl rfl rfl rfl rfl rfl ⟨⟨rb, 0, [.int .i64 _], none⟩ :: L, (by repeat (first | exact List.Sublist.refl _ | apply List.Sublist.cons_cons | apply List.Sublist.cons)), ?_⟩; exact walk_no (GH.le_refl _) (fits_not (by omega)))) (fun hc => ?_); (simp at hc); (repeat (first | refine V.stepY rfl ?_ | refine V.loadY rfl rfl rfl rfl rfl rfl ?_ | refine V.store rfl rfl rfl rfl rfl rfl rfl ?_ | refine V.condT rfl ?_ | refine V.condF rfl ?_ | refine V.skip rfl rfl ?_ | refine V.skipU rfl rfl rfl ?_ | refine V.pickT rfl rfl rfl rfl rfl ?_ | refine V.pickF rfl rfl rfl rfl rfl ?_ | refine V.step rfl ?_ | refine V.load rfl rfl rfl rfl rfl rfl ?_)); refine V.callIs rfl rfl rfl rfl rfl rfl (plain_does w0 h _ _ _ hr') ?_; (repeat (first | refine V.stepY rfl ?_ | refine V.loadY rfl rfl rfl rfl rfl rfl ?_ | refine V.store rfl rfl rfl rfl rfl rfl rfl ?_ | refine V.condT rfl ?_ | refine V.condF rfl ?_ | refine V.skip rfl rfl ?_ | refine V.skipU rfl rfl rfl ?_ | refine V.pickT rfl rfl rfl rfl rfl ?_ | refine V.pickF rfl rfl rfl rfl rfl ?_ | refine V.step rfl ?_ | refine V.load rfl rfl rfl rfl rfl rfl ?_))
        have hf1 : fits ⟨k, o, t, n, v, [a, b]⟩ room (33 - deep) ↔ fits a (IntKind.i64.wrap (room - 1)) (33 - IntKind.i64.wrap (deep + 1)) ∧ fits b (IntKind.i64.wrap (room - 1) - sz a) (33 - IntKind.i64.wrap (deep + 1)) := by
          rw [fits2 hs, hw1, hw2, show (33 : Int) - (deep + 1) = 33 - deep - 1 by omega, show room - 1 - (sz a : Int) = room - (1 + sz a) by omega]
        refine V.cond rfl (fun hd => (by simp [hs] at hd)) (fun hd => ?_)
        refine V.empty ?_
        (repeat (first | refine V.stepY rfl ?_ | refine V.loadY rfl rfl rfl rfl rfl rfl ?_ | refine V.store rfl rfl rfl rfl rfl rfl rfl ?_ | refine V.condT rfl ?_ | refine V.condF rfl ?_ | refine V.skip rfl rfl ?_ | refine V.skipU rfl rfl rfl ?_ | refine V.pickT rfl rfl rfl rfl rfl ?_ | refine V.pickF rfl rfl rfl rfl rfl ?_ | refine V.step rfl ?_ | refine V.load rfl rfl rfl rfl rfl rfl ?_)); refine V.loop1 ?_; (repeat (first | refine V.stepY rfl ?_ | refine V.loadY rfl rfl rfl rfl rfl rfl ?_ | refine V.store rfl rfl rfl rfl rfl rfl rfl ?_ | refine V.condT rfl ?_ | refine V.condF rfl ?_ | refine V.skip rfl rfl ?_ | refine V.skipU rfl rfl rfl ?_ | refine V.pickT rfl rfl rfl rfl rfl ?_ | refine V.pickF rfl rfl rfl rfl rfl ?_ | refine V.step rfl ?_ | refine V.load rfl rfl rfl rfl rfl rfl ?_))
        refine V.index rfl rfl rfl rfl rfl rfl (by decide) (by decide) ?_; refine V.loadHA rfl rfl rfl rfl rfl g1 g3 rfl ?_; refine V.alloc rfl rfl rfl rfl rfl rfl fun b9 => ?_; (repeat (first | refine V.stepY rfl ?_ | refine V.loadY rfl rfl rfl rfl rfl rfl ?_ | refine V.store rfl rfl rfl rfl rfl rfl rfl ?_ | refine V.condT rfl ?_ | refine V.condF rfl ?_ | refine V.skip rfl rfl ?_ | refine V.skipU rfl rfl rfl ?_ | refine V.pickT rfl rfl rfl rfl rfl ?_ | refine V.pickF rfl rfl rfl rfl rfl ?_ | refine V.step rfl ?_ | refine V.load rfl rfl rfl rfl rfl rfl ?_))
        refine V.loadH rfl rfl rfl rfl rfl hw.2 rfl ?_; (repeat (first | refine V.stepY rfl ?_ | refine V.loadY rfl rfl rfl rfl rfl rfl ?_ | refine V.store rfl rfl rfl rfl rfl rfl rfl ?_ | refine V.condT rfl ?_ | refine V.condF rfl ?_ | refine V.skip rfl rfl ?_ | refine V.skipU rfl rfl rfl ?_ | refine V.pickT rfl rfl rfl rfl rfl ?_ | refine V.pickF rfl rfl rfl rfl rfl ?_ | refine V.step rfl ?_ | refine V.load rfl rfl rfl rfl rfl rfl ?_))
        refine V.perm (L' := ⟨rb, 0, [.int .i64 (IntKind.i64.wrap (room - 1))], none⟩ :: _ :: _ :: _ :: _ :: L) (List.perm_middle (l₁ := [_, _, _, _]) (l₂ := L)) ?_
        refine V.call rfl rfl rfl rfl rfl rfl (walk_does w0 rb wb N a _ h _ _ _ (by omega) g2 hw (by omega) (by omega) (by omega) (by omega)) ?_
        rintro v1 h1 L1 ⟨hle1, room1, rfl, hv1⟩
        by_cases hfa : fits a (IntKind.i64.wrap (room - 1)) (33 - IntKind.i64.wrap (deep + 1))
        · rw [if_pos hfa] at hv1
          obtain ⟨rfl, hro⟩ := hv1
          refine V.alloc rfl rfl rfl rfl rfl rfl fun b10 => ?_; (repeat (first | refine V.stepY rfl ?_ | refine V.loadY rfl rfl rfl rfl rfl rfl ?_ | refine V.store rfl rfl rfl rfl rfl rfl rfl ?_ | refine V.condT rfl ?_ | refine V.condF rfl ?_ | refine V.skip rfl rfl ?_ | refine V.skipU rfl rfl rfl ?_ | refine V.pickT rfl rfl rfl rfl rfl ?_ | refine V.pickF rfl rfl rfl rfl rfl ?_ | refine V.step rfl ?_ | refine V.load rfl rfl rfl rfl rfl rfl ?_))
          (refine V.litP rfl rfl rfl rfl rfl rfl fun c1 h2 hle2 hat2 => ?_; (repeat (first | refine V.stepY rfl ?_ | refine V.loadY rfl rfl rfl rfl rfl rfl ?_ | refine V.store rfl rfl rfl rfl rfl rfl rfl ?_ | refine V.condT rfl ?_ | refine V.condF rfl ?_ | refine V.skip rfl rfl ?_ | refine V.skipU rfl rfl rfl ?_ | refine V.pickT rfl rfl rfl rfl rfl ?_ | refine V.pickF rfl rfl rfl rfl rfl ?_ | refine V.step rfl ?_ | refine V.load rfl rfl rfl rfl rfl rfl ?_)); refine V.perm (L' := ⟨0, 0, [], none⟩ :: _ :: _ :: _ :: _ :: _ :: L) (List.perm_middle (l₁ := [_, _, _]) (l₂ := _ :: _ :: L)) ?_; have ha2 : Sl h2 4 (.slice (some ⟨c1, 0, none⟩) 1 1) (nrc (ne a)) := Sl.of (Nat.le_refl _) rfl hat2; refine V.appendN 1 rfl rfl rfl rfl rfl rfl rfl rfl rfl rfl rfl rfl (Sl.nil h2 4) (Tl.nil 4) ha2 (by simp only [nrc, List.length_cons, List.length_nil]; omega) rfl (by decide) ?_; intro jb jo cc h3 x2 hle3 hcc hat3 tl2; (repeat (first | refine V.stepY rfl ?_ | refine V.loadY rfl rfl rfl rfl rfl rfl ?_ | refine V.store rfl rfl rfl rfl rfl rfl rfl ?_ | refine V.condT rfl ?_ | refine V.condF rfl ?_ | refine V.skip rfl rfl ?_ | refine V.skipU rfl rfl rfl ?_ | refine V.pickT rfl rfl rfl rfl rfl ?_ | refine V.pickF rfl rfl rfl rfl rfl ?_ | refine V.step rfl ?_ | refine V.load rfl rfl rfl rfl rfl rfl ?_)))
          have hlt := GH.le_trans hle1 (GH.le_trans hle2 hle3)
          have hat3 : atH h3 jb jo (nrc (ne a)) := hat3
          have hfas := hfa.2.1
          refine V.again ?_; (repeat (first | refine V.stepY rfl ?_ | refine V.loadY rfl rfl rfl rfl rfl rfl ?_ | refine V.store rfl rfl rfl rfl rfl rfl rfl ?_ | refine V.condT rfl ?_ | refine V.condF rfl ?_ | refine V.skip rfl rfl ?_ | refine V.skipU rfl rfl rfl ?_ | refine V.pickT rfl rfl rfl rfl rfl ?_ | refine V.pickF rfl rfl rfl rfl rfl ?_ | refine V.step rfl ?_ | refine V.load rfl rfl rfl rfl rfl rfl ?_))
          refine V.index rfl rfl rfl rfl rfl rfl (by decide) (by decide) ?_; refine V.loadHA rfl rfl rfl rfl rfl (g4.mono hlt) g6 rfl ?_; refine V.alloc rfl rfl rfl rfl rfl rfl fun b9' => ?_; (repeat (first | refine V.stepY rfl ?_ | refine V.loadY rfl rfl rfl rfl rfl rfl ?_ | refine V.store rfl rfl rfl rfl rfl rfl rfl ?_ | refine V.condT rfl ?_ | refine V.condF rfl ?_ | refine V.skip rfl rfl ?_ | refine V.skipU rfl rfl rfl ?_ | refine V.pickT rfl rfl rfl rfl rfl ?_ | refine V.pickF rfl rfl rfl rfl rfl ?_ | refine V.step rfl ?_ | refine V.load rfl rfl rfl rfl rfl rfl ?_))
          refine V.loadH rfl rfl rfl rfl rfl (hlt _ _ _ hw.2) rfl ?_; (repeat (first | refine V.stepY rfl ?_ | refine V.loadY rfl rfl rfl rfl rfl rfl ?_ | refine V.store rfl rfl rfl rfl rfl rfl rfl ?_ | refine V.condT rfl ?_ | refine V.condF rfl ?_ | refine V.skip rfl rfl ?_ | refine V.skipU rfl rfl rfl ?_ | refine V.pickT rfl rfl rfl rfl rfl ?_ | refine V.pickF rfl rfl rfl rfl rfl ?_ | refine V.step rfl ?_ | refine V.load rfl rfl rfl rfl rfl rfl ?_))
          refine V.perm (L' := ⟨rb, 0, [.int .i64 room1], none⟩ :: _ :: _ :: _ :: _ :: _ :: _ :: L) (List.perm_middle (l₁ := [_, _, _]) (l₂ := _ :: _ :: _ :: L)) ?_
          refine V.call rfl rfl rfl rfl rfl rfl (walk_does w0 rb wb N b _ h3 _ _ _ (by omega) (RK.mono hlt g5) (hw.mono hlt) (by omega) (by omega) (by omega) (by omega)) ?_
          rintro v2 h4 L2 ⟨hle4, room2, rfl, hv2⟩
          by_cases hfb : fits b room1 (33 - IntKind.i64.wrap (deep + 1))
          · rw [if_pos hfb] at hv2
            obtain ⟨rfl, hro2⟩ := hv2
            refine V.alloc rfl rfl rfl rfl rfl rfl fun b10' => ?_; (repeat (first | refine V.stepY rfl ?_ | refine V.loadY rfl rfl rfl rfl rfl rfl ?_ | refine V.store rfl rfl rfl rfl rfl rfl rfl ?_ | refine V.condT rfl ?_ | refine V.condF rfl ?_ | refine V.skip rfl rfl ?_ | refine V.skipU rfl rfl rfl ?_ | refine V.pickT rfl rfl rfl rfl rfl ?_ | refine V.pickF rfl rfl rfl rfl rfl ?_ | refine V.step rfl ?_ | refine V.load rfl rfl rfl rfl rfl rfl ?_))
            refine V.litP rfl rfl rfl rfl rfl rfl fun c2 h5 hle5 hat5 => ?_; (repeat (first | refine V.stepY rfl ?_ | refine V.loadY rfl rfl rfl rfl rfl rfl ?_ | refine V.store rfl rfl rfl rfl rfl rfl rfl ?_ | refine V.condT rfl ?_ | refine V.condF rfl ?_ | refine V.skip rfl rfl ?_ | refine V.skipU rfl rfl rfl ?_ | refine V.pickT rfl rfl rfl rfl rfl ?_ | refine V.pickF rfl rfl rfl rfl rfl ?_ | refine V.step rfl ?_ | refine V.load rfl rfl rfl rfl rfl rfl ?_))
            refine V.perm (L' := x2 :: _ :: _ :: _ :: _ :: _ :: _ :: _ :: L) (List.perm_middle (l₁ := [_, _, _]) (l₂ := _ :: _ :: _ :: _ :: L)) ?_
            have hb2 : Sl h5 4 (.slice (some ⟨c2, 0, none⟩) 1 1) (nrc (ne b)) := Sl.of (Nat.le_refl _) rfl hat5
            have hb1 : Sl h5 4 (.slice (some ⟨jb, jo, none⟩) 1 cc) (nrc (ne a)) := Sl.of hcc rfl (hat3.mono (GH.le_trans hle4 hle5))
            refine V.appendN 2 rfl rfl rfl rfl rfl rfl rfl rfl rfl rfl rfl rfl hb1 tl2 hb2 (by simp only [nrc, List.length_cons, List.length_nil]; omega) rfl (by decide) ?_
            intro jb2 jo2 cc2 h6 x3 hle6 hcc2 hat6 tl3; (repeat (first | refine V.stepY rfl ?_ | refine V.loadY rfl rfl rfl rfl rfl rfl ?_ | refine V.store rfl rfl rfl rfl rfl rfl rfl ?_ | refine V.condT rfl ?_ | refine V.condF rfl ?_ | refine V.skip rfl rfl ?_ | refine V.skipU rfl rfl rfl ?_ | refine V.pickT rfl rfl rfl rfl rfl ?_ | refine V.pickF rfl rfl rfl rfl rfl ?_ | refine V.step rfl ?_ | refine V.load rfl rfl rfl rfl rfl rfl ?_))
            have hlt2 := GH.le_trans hlt (GH.le_trans hle4 (GH.le_trans hle5 hle6))
            have hff := hf1.2 ⟨hfa, by rw [← hro]; exact hfb⟩
            have ba := ne_bounds N a (by omega) hfa.1
            have bb' := ne_bounds N b (by omega) hfb.1
            have bs := hff.2.1
            refine V.again ?_; (repeat (first | refine V.stepY rfl ?_ | refine V.loadY rfl rfl rfl rfl rfl rfl ?_ | refine V.store rfl rfl rfl rfl rfl rfl rfl ?_ | refine V.condT rfl ?_ | refine V.condF rfl ?_ | refine V.skip rfl rfl ?_ | refine V.skipU rfl rfl rfl ?_ | refine V.pickT rfl rfl rfl rfl rfl ?_ | refine V.pickF rfl rfl rfl rfl rfl ?_ | refine V.step rfl ?_ | refine V.load rfl rfl rfl rfl rfl rfl ?_))
            have key : walkR ⟨k, o, t, n, v, [a, b]⟩ room deep rb h L (.agg ⟨nrc (jn k o t n v [ne a, ne b])⟩) h6 (⟨rb, 0, [.int .i64 room2], none⟩ :: L) := by
              rw [show jn k o t n v [ne a, ne b] = ne ⟨k, o, t, n, v, [a, b]⟩ by simp only [ne, nel]]
              exact walk_yes hlt2 hff (by simp only [sz, szl]; omega)
            simp only [sz, szl] at bs
            refine V.callIs rfl rfl rfl rfl rfl rfl (joinB_does w0 h6 (hw.1.mono hlt2) _ k o t n v a b (ne a) (ne b) (by omega) (by omega) hff.1 (some ⟨bb, off, none⟩) 2 cap jb2 jo2 cc2 (at2 hat6).1 (at2 hat6).2) ?_; (repeat (first | refine V.stepY rfl ?_ | refine V.loadY rfl rfl rfl rfl rfl rfl ?_ | refine V.store rfl rfl rfl rfl rfl rfl rfl ?_ | refine V.condT rfl ?_ | refine V.condF rfl ?_ | refine V.skip rfl rfl ?_ | refine V.skipU rfl rfl rfl ?_ | refine V.pickT rfl rfl rfl rfl rfl ?_ | refine V.pickF rfl rfl rfl rfl rfl ?_ | refine V.step rfl ?_ | refine V.load rfl rfl rfl rfl rfl rfl ?_))
            refine retC0 rfl rfl rfl rfl rfl rfl rfl ⟨⟨rb, 0, [.int .i64 _], none⟩ :: L, (by repeat (first | exact List.Sublist.refl _ | apply List.Sublist.cons_cons | apply List.Sublist.cons)), ?_⟩; exact key
          · rw [if_neg hfb] at hv2
            subst hv2
            refine V.alloc rfl rfl rfl rfl rfl rfl fun b10' => ?_; (repeat (first | refine V.stepY rfl ?_ | refine V.loadY rfl rfl rfl rfl rfl rfl ?_ | refine V.store rfl rfl rfl rfl rfl rfl rfl ?_ | refine V.condT rfl ?_ | refine V.condF rfl ?_ | refine V.skip rfl rfl ?_ | refine V.skipU rfl rfl rfl ?_ | refine V.pickT rfl rfl rfl rfl rfl ?_ | refine V.pickF rfl rfl rfl rfl rfl ?_ | refine V.step rfl ?_ | refine V.load rfl rfl rfl rfl rfl rfl ?_))
            refine retC0 rfl rfl rfl rfl rfl rfl rfl ⟨⟨rb, 0, [.int .i64 _], none⟩ :: L, (by repeat (first | exact List.Sublist.refl _ | apply List.Sublist.cons_cons | apply List.Sublist.cons)), ?_⟩; exact walk_no (GH.le_trans hlt hle4) (fun hh => hfb (by rw [hro]; exact (hf1.1 hh).2))
        · rw [if_neg hfa] at hv1
          subst hv1
          refine V.alloc rfl rfl rfl rfl rfl rfl fun b10 => ?_; (repeat (first | refine V.stepY rfl ?_ | refine V.loadY rfl rfl rfl rfl rfl rfl ?_ | refine V.store rfl rfl rfl rfl rfl rfl rfl ?_ | refine V.condT rfl ?_ | refine V.condF rfl ?_ | refine V.skip rfl rfl ?_ | refine V.skipU rfl rfl rfl ?_ | refine V.pickT rfl rfl rfl rfl rfl ?_ | refine V.pickF rfl rfl rfl rfl rfl ?_ | refine V.step rfl ?_ | refine V.load rfl rfl rfl rfl rfl rfl ?_))
          refine retC0 rfl rfl rfl rfl rfl rfl rfl ⟨⟨rb, 0, [.int .i64 _], none⟩ :: L, (by repeat (first | exact List.Sublist.refl _ | apply List.Sublist.cons_cons | apply List.Sublist.cons)), ?_⟩; exact walk_no hle1 (fun hh => hfa (hf1.1 hh).1)
    · obtain ⟨k, o, t, n, v, l⟩ := e
      simp only [RK] at hr
      obtain ⟨hz, a, cap, rfl, hcap, hl⟩ := hr
      refine Does.resL (Does.of_V (cfg w0 80 Tryz.f80 49 (RL (walkR _ room deep rb h L)) Tryz.func80) rfl rfl rfl rfl rfl rfl ?_); (repeat (first | refine V.step rfl ?_ | refine V.load rfl rfl rfl rfl rfl rfl ?_ | refine V.store rfl rfl rfl rfl rfl rfl rfl ?_ | refine V.condT rfl ?_ | refine V.condF rfl ?_)); refine V.box rfl rfl rfl rfl rfl rfl fun be => ?_; refine V.alloc rfl rfl rfl rfl rfl rfl fun bx => ?_; (repeat (first | refine V.step rfl ?_ | refine V.load rfl rfl rfl rfl rfl rfl ?_ | refine V.store rfl rfl rfl rfl rfl rfl rfl ?_ | refine V.condT rfl ?_ | refine V.condF rfl ?_))
      refine V.split 19 rfl (fun hc => (by simp at hc; (repeat (first | refine V.stepY rfl ?_ | refine V.loadY rfl rfl rfl rfl rfl rfl ?_ | refine V.store rfl rfl rfl rfl rfl rfl rfl ?_ | refine V.condT rfl ?_ | refine V.condF rfl ?_ | refine V.skip rfl rfl ?_ | refine V.skipU rfl rfl rfl ?_ | refine V.pickT rfl rfl rfl rfl rfl ?_ | refine V.pickF rfl rfl rfl rfl rfl ?_ | refine V.step rfl ?_ | refine V.load rfl rfl rfl rfl rfl rfl ?_)); refine retC0 rfl rfl rfl rfl rfl rfl rfl ⟨⟨rb, 0, [.int .i64 _], none⟩ :: L, (by repeat (first | exact List.Sublist.refl _ | apply List.Sublist.cons_cons | apply List.Sublist.cons)), ?_⟩; exact walk_no (GH.le_refl _) (fits_not (by omega)))) (fun hc => ?_); (simp at hc); (repeat (first | refine V.stepY rfl ?_ | refine V.loadY rfl rfl rfl rfl rfl rfl ?_ | refine V.store rfl rfl rfl rfl rfl rfl rfl ?_ | refine V.condT rfl ?_ | refine V.condF rfl ?_ | refine V.skip rfl rfl ?_ | refine V.skipU rfl rfl rfl ?_ | refine V.pickT rfl rfl rfl rfl rfl ?_ | refine V.pickF rfl rfl rfl rfl rfl ?_ | refine V.step rfl ?_ | refine V.load rfl rfl rfl rfl rfl rfl ?_)); refine V.callIs rfl rfl rfl rfl rfl rfl (plain_does w0 h _ _ _ hr') ?_; (repeat (first | refine V.stepY rfl ?_ | refine V.loadY rfl rfl rfl rfl rfl rfl ?_ | refine V.store rfl rfl rfl rfl rfl rfl rfl ?_ | refine V.condT rfl ?_ | refine V.condF rfl ?_ | refine V.skip rfl rfl ?_ | refine V.skipU rfl rfl rfl ?_ | refine V.pickT rfl rfl rfl rfl rfl ?_ | refine V.pickF rfl rfl rfl rfl rfl ?_ | refine V.step rfl ?_ | refine V.load rfl rfl rfl rfl rfl rfl ?_))
      refine V.cond rfl (fun hd => ?_) (fun hd => (by simp at hd; exact (hs hd).elim))
      (repeat (first | refine V.stepY rfl ?_ | refine V.loadY rfl rfl rfl rfl rfl rfl ?_ | refine V.store rfl rfl rfl rfl rfl rfl rfl ?_ | refine V.condT rfl ?_ | refine V.condF rfl ?_ | refine V.skip rfl rfl ?_ | refine V.skipU rfl rfl rfl ?_ | refine V.pickT rfl rfl rfl rfl rfl ?_ | refine V.pickF rfl rfl rfl rfl rfl ?_ | refine V.step rfl ?_ | refine V.load rfl rfl rfl rfl rfl rfl ?_)); refine retC0 rfl rfl rfl rfl rfl rfl rfl ⟨⟨rb, 0, [.int .i64 _], none⟩ :: L, (by repeat (first | exact List.Sublist.refl _ | apply List.Sublist.cons_cons | apply List.Sublist.cons)), ?_⟩; exact walk_no (GH.le_refl _) (fits_not (.inr (.inr (by simpa using hs))))
end Go.Proofs.YtgmeahcclogfmaaGreatDoor.S22
/-!
  Chapter 22: measure and its readers; trees the laws build.
-/
namespace Go.Proofs.YtgmeahcclogfmaaGreatDoor.S22
open Go Go.Tp
set_option linter.unusedVariables false
set_option linter.unusedSimpArgs false
set_option maxRecDepth 100000
set_option maxHeartbeats 4000000
def nrV (e : KE) : List Value := if valid e then nrc (ne e) else zeros
theorem measure_does (w0 : World) (h : GH) (hq : atH h 0 0 quietL) (L : List Ent) (e : KE) (cs : List Value) (hr : RK h e cs) : Does Tryz.prog w0 62 [.agg ⟨cs⟩] h L (Is (.agg ⟨nrV e⟩) h L) := by
  have hr' := hr
  obtain ⟨k, o, t, n, v, a, m, cap, rfl⟩ := RK_c hr
  refine Does.is (Does.of_V (cfg w0 62 Tryz.f62 9 (RIs (.agg ⟨nrV e⟩) h L) Tryz.func62) rfl rfl rfl rfl rfl rfl ?_)
  (repeat (first | refine V.step rfl ?_ | refine V.load rfl rfl rfl rfl rfl rfl ?_ | refine V.store rfl rfl rfl rfl rfl rfl rfl ?_ | refine V.condT rfl ?_ | refine V.condF rfl ?_)); refine V.box rfl rfl rfl rfl rfl rfl fun be => ?_; refine V.alloc rfl rfl rfl rfl rfl rfl fun bx => ?_; (repeat (first | refine V.step rfl ?_ | refine V.load rfl rfl rfl rfl rfl rfl ?_ | refine V.store rfl rfl rfl rfl rfl rfl rfl ?_ | refine V.condT rfl ?_ | refine V.condF rfl ?_))
  refine V.alloc rfl rfl rfl rfl rfl rfl fun rb => ?_; (repeat (first | refine V.step rfl ?_ | refine V.load rfl rfl rfl rfl rfl rfl ?_ | refine V.store rfl rfl rfl rfl rfl rfl rfl ?_ | refine V.condT rfl ?_ | refine V.condF rfl ?_))
  refine V.alloc rfl rfl rfl rfl rfl rfl fun wb => ?_; (repeat (first | refine V.step rfl ?_ | refine V.load rfl rfl rfl rfl rfl rfl ?_ | refine V.store rfl rfl rfl rfl rfl rfl rfl ?_ | refine V.condT rfl ?_ | refine V.condF rfl ?_))
  refine V.publish fun hle => ?_
  have hw : WH (h.add wb 0 [.func (.func 80) #[] #[.pointer (some ⟨rb, 0, none⟩), .pointer (some ⟨wb, 0, none⟩)]]) rb wb := ⟨hq.mono hle, GH.add_at h wb 0 _ (i := 0) rfl⟩
  refine V.call rfl rfl rfl rfl rfl rfl (walk_does w0 rb wb _ e _ _ _ 256 1 (Nat.le_refl _) (RK.mono hle hr) hw (by omega) (by omega) (by omega) (by omega)) ?_
  rintro v1 h1 L1 ⟨hle1, room1, rfl, hv1⟩
  have hle2 := GH.le_trans hle hle1
  by_cases hv : valid e
  · have hnv : nrV e = nrc (ne e) := if_pos hv
    rw [if_pos (show fits e 256 (33 - 1) from hv)] at hv1
    obtain ⟨rfl, _⟩ := hv1
    (repeat (first | refine V.step rfl ?_ | refine V.load rfl rfl rfl rfl rfl rfl ?_ | refine V.store rfl rfl rfl rfl rfl rfl rfl ?_ | refine V.condT rfl ?_ | refine V.condF rfl ?_)); refine retC0 rfl rfl rfl rfl rfl rfl rfl ⟨?_, hle2, (by repeat (first | exact List.Sublist.refl _ | apply List.Sublist.cons_cons | apply List.Sublist.cons))⟩; rw [hnv]; rfl
  · have hnv : nrV e = zeros := if_neg hv
    rw [if_neg (show ¬ fits e 256 (33 - 1) from hv)] at hv1
    subst hv1
    (repeat (first | refine V.step rfl ?_ | refine V.load rfl rfl rfl rfl rfl rfl ?_ | refine V.store rfl rfl rfl rfl rfl rfl rfl ?_ | refine V.condT rfl ?_ | refine V.condF rfl ?_)); refine retC0 rfl rfl rfl rfl rfl rfl rfl ⟨?_, hle2, (by repeat (first | exact List.Sublist.refl _ | apply List.Sublist.cons_cons | apply List.Sublist.cons))⟩; rw [hnv]; rfl
theorem nrV_eq (e : KE) : nrV e = [.bool (decide (valid e)), .bool (nrOf e).safe, .int .i64 (nrOf e).regs, .int .i64 (nrOf e).temps] := by
  unfold nrV nrOf
  by_cases h : valid e
  · simp [h, nrc]
  · simp [h, zeros]
theorem measure_cells (w0 : World) (h : GH) (hq : atH h 0 0 quietL) (L : List Ent) (e : KE) (cs : List Value) (hr : RK h e cs) :
    Does Tryz.prog w0 62 [.agg ⟨cs⟩] h L (Is (.agg ⟨[.bool (decide (valid e)), .bool (nrOf e).safe, .int .i64 (nrOf e).regs, .int .i64 (nrOf e).temps]⟩) h L) := by
  have := measure_does w0 h hq L e cs hr
  rw [nrV_eq] at this; exact this
theorem dsafe_does (w0 : World) (h : GH) (hq : atH h 0 0 quietL) (L : List Ent) (e : KE) (cs : List Value) (hr : RK h e cs) : Does Tryz.prog w0 44 [.agg ⟨cs⟩] h L (Is (.bool (nrOf e).safe) h L) := by
  have hr' := hr
  obtain ⟨k, o, t, n, v, a, m, cap, rfl⟩ := RK_c hr
  refine Does.is (Does.of_V (cfg w0 44 Tryz.f44 6 (RIs (.bool _) h L) Tryz.func44) rfl rfl rfl rfl rfl rfl ?_)
  (repeat (first | refine V.step rfl ?_ | refine V.load rfl rfl rfl rfl rfl rfl ?_ | refine V.store rfl rfl rfl rfl rfl rfl rfl ?_ | refine V.condT rfl ?_ | refine V.condF rfl ?_)); refine V.box rfl rfl rfl rfl rfl rfl fun be => ?_; (repeat (first | refine V.step rfl ?_ | refine V.load rfl rfl rfl rfl rfl rfl ?_ | refine V.store rfl rfl rfl rfl rfl rfl rfl ?_ | refine V.condT rfl ?_ | refine V.condF rfl ?_)); refine V.callIs rfl rfl rfl rfl rfl rfl (measure_cells w0 h hq _ e _ hr') ?_; (repeat (first | refine V.step rfl ?_ | refine V.load rfl rfl rfl rfl rfl rfl ?_ | refine V.store rfl rfl rfl rfl rfl rfl rfl ?_ | refine V.condT rfl ?_ | refine V.condF rfl ?_)); refine V.ret1 (L0 := []) rfl rfl rfl rfl rfl ⟨?_, GH.le_refl _, (by repeat (first | exact List.Sublist.refl _ | apply List.Sublist.cons_cons | apply List.Sublist.cons))⟩; rfl
end Go.Proofs.YtgmeahcclogfmaaGreatDoor.S22
/-!
  Chapter 22 for other chapters: depth.Safe, by both texts.
-/
namespace Go.Proofs.YtgmeahcclogfmaaGreatDoor
open Go Go.Tp
set_option linter.unusedVariables false
set_option linter.unusedSimpArgs false
set_option maxRecDepth 100000
set_option maxHeartbeats 4000000
abbrev gsQ : Ua := [(0, .pe 27 (.ag (S22.quietL.map .v)))]
abbrev safeK (e : KE) : Bool := (S22.nrOf e).safe
theorem RpC1 {h : GH} {x : Value} {r : List AV} {vs : List Value} (q : RpC h (.v x :: r) vs) : ∃ vs', vs = x :: vs' ∧ RpC h r vs' := by
  rw [RpC_cons] at q
  obtain ⟨v, vs', rfl, h1, h2⟩ := q
  rw [Rp_v] at h1
  exact ⟨vs', by rw [h1.1], h2⟩
mutual
theorem RK_of {h : GH} : ∀ {e : KE} {cs : List Value}, wfK e → Rp h (encK e) (.agg ⟨cs⟩) → RK h e cs
  | ⟨k, o, t, n, v, l⟩, cs, hw, q => by
    rw [wfK] at hw
    rw [encK, Rp_ag] at q
    obtain ⟨cs', e1, q⟩ := q
    injection e1 with e1; injection e1 with e1; subst e1
    obtain ⟨c1, rfl, k1⟩ := RpC1 q
    obtain ⟨c2, rfl, k2⟩ := RpC1 k1
    obtain ⟨c3, rfl, k3⟩ := RpC1 k2
    obtain ⟨c4, rfl, k4⟩ := RpC1 k3
    obtain ⟨c5, rfl, k5⟩ := RpC1 k4
    rw [RpC_cons] at k5
    obtain ⟨u, us, rfl, q1, q2⟩ := k5
    rw [RpC_nil] at q2; subst q2
    rw [Rp_sl] at q1
    obtain ⟨a, cap, rfl, q2, _, q3⟩ := q1
    have hl : (encKl l).length = l.length := by rw [encKl_map, List.length_map]
    rw [RK]
    refine ⟨hw.1, a, cap, by rw [hl], by rw [← hl]; exact q2, fun hn => ?_⟩
    obtain ⟨b, oo, rfl, q4⟩ := q3 (fun hh => hn (by rw [hh] at hl; exact List.length_eq_zero_iff.1 hl.symm))
    exact ⟨b, oo, rfl, RKl_of' hw.2 q4⟩
theorem RKl_of' {h : GH} : ∀ {l : List KE} {b o : Nat}, wfKl l → RpE h 6 (encKl l) b o → RKl h l b o
  | [], _, _, _, _ => by rw [RKl]; trivial
  | e :: r, b, o, hw, q => by
    rw [wfKl] at hw
    rw [encKl, RpE_cons] at q
    obtain ⟨⟨z, q1, q2, q3⟩, q4⟩ := q
    rw [RKl]
    have q5 := q1
    rw [encK_eq, Rp_ag] at q5
    obtain ⟨cs, rfl, _⟩ := q5
    have e1 : cellsL (.agg ⟨cs⟩) = cs := rfl
    rw [e1] at q3
    exact ⟨⟨cs, q3, RK_of hw.1 q1⟩, RKl_of' hw.2 q4⟩
end
theorem quiet_gs {h : GH} (g : GsOk h gsQ) : atH h 0 0 S22.quietL := by
  have q := g 0 _ rfl
  rw [Rp_pe] at q
  obtain ⟨b, o, z, e1, q1, q2, q3⟩ := q
  injection e1 with e1; injection e1 with e1; injection e1 with e1 e2
  subst e1; subst e2
  rw [Rp_ag] at q1
  obtain ⟨cs, rfl, q1⟩ := q1
  have : ∀ (l cs : List Value), RpC h (l.map .v) cs → cs = l := fun l => by
    induction l with
    | nil => intro cs q; rw [List.map_nil, RpC_nil] at q; exact q
    | cons x r ih =>
      intro cs q
      obtain ⟨vs, rfl, k1⟩ := RpC1 q
      rw [ih vs k1]
  have := this _ _ q1
  subst this
  exact q3
theorem pure_is {f : FuncId} {e : KE} {v : Value} (hw : wfK e) (hv : oneC v = true) (hd : ∀ w0 h L cs, atH h 0 0 S22.quietL → RK h e cs → Does Tryz.prog w0 f [.agg ⟨cs⟩] h L (Is v h L)) : Pure Tryz.prog gsQ f [encK e] (.v v) := by
  intro w0 h vs L F g r q
  have q : L = [] := q
  subst q
  rw [RpC_cons] at r
  obtain ⟨u, us, rfl, r1, r2⟩ := r
  rw [RpC_nil] at r2; subst r2
  have r3 := r1
  rw [encK_eq, Rp_ag] at r3
  obtain ⟨cs, rfl, _⟩ := r3
  refine (hd w0 h F cs (quiet_gs g) (RK_of hw r1)).mono fun v' h' L' ⟨e1, e2, e3⟩ => ?_
  subst e1; subst e2; subst e3
  exact ⟨_, [], [], ⟨rfl, rfl⟩, Rp_v.2 ⟨rfl, hv⟩, GH.le_refl _, rfl, rfl⟩
theorem dsafe_p (e : KE) (hw : wfK e) : Pure Tryz.prog gsQ 44 [encK e] (AB (safeK e)) := pure_is hw rfl fun w0 h L cs hq hr => S22.dsafe_does w0 h hq L e cs hr
theorem rsafe22_p (e : KE) (hw : wfK e) : Pure Tryz.prog gsQ 38 [encK e] (AB (safeK e)) := pure_is hw rfl fun w0 h L cs _ hr => S22.refSafe_does w0 h L e cs hr
end Go.Proofs.YtgmeahcclogfmaaGreatDoor
