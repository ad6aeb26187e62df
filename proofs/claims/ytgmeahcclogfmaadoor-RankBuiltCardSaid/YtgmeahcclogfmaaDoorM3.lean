/-
  Texts S22d S22e S22f S22g S22y R23b R23c R23d R23e Q23a, in one. Conditions: as each theorem says.
-/
import Derived.Test.YtgmeahcclogfmaaDoorM2
import Derived.Test.YtgmeahcclogfmaaDoorM1
import Derived.Test.YtgmeahcclogfmaaDoorLf
/-!
  Chapter 22: the clear text's answers; depth.join.
-/
namespace Go.Proofs.YtgmeahcclogfmaaDoor.S22
open Go Go.Tp
set_option linter.unusedVariables false
set_option linter.unusedSimpArgs false
set_option maxRecDepth 100000
set_option maxHeartbeats 4000000
abbrev valid (e : KE) : Prop := fits e 256 32
theorem RK_c {h : GH} {e : KE} {cs : List Value} (hr : RK h e cs) : ∃ k o t n v a m cap, cs = [.int .u8 k, .int .u8 o, .int .u8 t, .int .i32 n, .int .i64 v, .slice a m cap] := by
  obtain ⟨k, o, t, n, v, l⟩ := e
  simp only [RK] at hr
  obtain ⟨hz, a, cap, rfl, hcap, hl⟩ := hr
  exact ⟨_, _, _, _, _, _, _, _, rfl⟩
def nrOf (e : KE) : NR := if valid e then ne e else ⟨false, 0, 0⟩
/-! ### depth.join -/
def nrc (a : NR) : List Value := [.bool true, .bool a.safe, .int .i64 a.regs, .int .i64 a.temps]
def quietB (o : Int) : Bool := (6 ≤ o && o ≤ 22) || (24 ≤ o && o ≤ 26)
def quietL : List Value := (List.range 27).map fun (i : Nat) => Value.bool (quietB i)
theorem quiet_at {h : GH} (hq : atH h 0 0 quietL) {o : Int} (h0 : 0 ≤ o) (h1 : o < 27) : h 0 (0 + o.toNat * 1) = some (.bool (quietB o)) := by
  have := hq o.toNat (.bool (quietB o)) (by
    unfold quietL
    rw [List.getElem?_map, List.getElem?_range (by omega)]
    simp only [Option.map_some]
    rw [show ((o.toNat : Nat) : Int) = o by omega])
  simpa using this
theorem join0_does (w0 : World) (h : GH) (L : List Ent) (k o t n v : Int) (a' : Option Addr) (c1 : Nat) (a : Option Addr) (c : Nat) : Does Tryd.prog w0 62 [.agg ⟨[.int .u8 k, .int .u8 o, .int .u8 t, .int .i32 n, .int .i64 v, .slice a' 0 c1]⟩, .slice a 0 c] h L (Is (.agg ⟨nrc ⟨true, 1, 0⟩⟩) h L) := by
  refine Does.is (Does.of_V (cfg w0 62 Tryd.f62 132 (RIs (.agg ⟨nrc _⟩) h L) Tryd.func62) rfl rfl rfl rfl rfl rfl ?_); (repeat (first | refine V.step rfl ?_ | refine V.load rfl rfl rfl rfl rfl rfl ?_ | refine V.store rfl rfl rfl rfl rfl rfl rfl ?_ | refine V.condT rfl ?_ | refine V.condF rfl ?_)); refine V.box rfl rfl rfl rfl rfl rfl fun be => ?_; refine V.alloc rfl rfl rfl rfl rfl rfl fun bx => ?_; (repeat (first | refine V.step rfl ?_ | refine V.load rfl rfl rfl rfl rfl rfl ?_ | refine V.store rfl rfl rfl rfl rfl rfl rfl ?_ | refine V.condT rfl ?_ | refine V.condF rfl ?_)); refine retC0 rfl rfl rfl rfl rfl rfl rfl ⟨?_, GH.le_refl _, (by repeat (first | exact List.Sublist.refl _ | apply List.Sublist.cons))⟩; rfl
theorem agg_eq {s : Bool} {r u : Int} {b : NR} (h1 : s = b.safe) (h2 : r = b.regs) (h3 : u = b.temps) : (Value.agg ⟨[.bool true, .bool s, .int .i64 r, .int .i64 u]⟩) = .agg ⟨nrc b⟩ := by
  unfold nrc; rw [h1, h2, h3]
theorem join3_does (w0 : World) (h : GH) (L : List Ent) (v : Int) (x : NR) (p : Option Addr) (m q : Nat) (b of c : Nat) (ha : atH h b of (nrc x)) :
    Does Tryd.prog w0 62 [.agg ⟨[.int .u8 3, .int .u8 0, .int .u8 0, .int .i32 0, .int .i64 v, .slice p m q]⟩, .slice (some ⟨b, of, none⟩) 1 c] h L (Is (.agg ⟨nrc (jn 3 0 0 0 v [x])⟩) h L) := by
  obtain ⟨s, r, u⟩ := x
  cases s
  · refine Does.is (Does.of_V (cfg w0 62 Tryd.f62 132 (RIs (.agg ⟨nrc _⟩) h L) Tryd.func62) rfl rfl rfl rfl rfl rfl ?_); (repeat (first | refine V.stepY rfl ?_ | refine V.loadY rfl rfl rfl rfl rfl rfl ?_ | refine V.store rfl rfl rfl rfl rfl rfl rfl ?_ | refine V.condT rfl ?_ | refine V.condF rfl ?_ | refine V.skip rfl rfl ?_ | refine V.skipU rfl rfl rfl ?_ | refine V.pickT rfl rfl rfl rfl rfl ?_ | refine V.pickF rfl rfl rfl rfl rfl ?_ | refine V.step rfl ?_ | refine V.load rfl rfl rfl rfl rfl rfl ?_)); refine V.box rfl rfl rfl rfl rfl rfl fun be => ?_; refine V.alloc rfl rfl rfl rfl rfl rfl fun bx => ?_; (repeat (first | refine V.stepY rfl ?_ | refine V.loadY rfl rfl rfl rfl rfl rfl ?_ | refine V.store rfl rfl rfl rfl rfl rfl rfl ?_ | refine V.condT rfl ?_ | refine V.condF rfl ?_ | refine V.skip rfl rfl ?_ | refine V.skipU rfl rfl rfl ?_ | refine V.pickT rfl rfl rfl rfl rfl ?_ | refine V.pickF rfl rfl rfl rfl rfl ?_ | refine V.step rfl ?_ | refine V.load rfl rfl rfl rfl rfl rfl ?_)); refine V.index rfl rfl rfl rfl rfl rfl (by decide) (by decide) ?_; refine V.loadHA rfl rfl rfl rfl rfl ha rfl rfl ?_; refine V.alloc rfl rfl rfl rfl rfl rfl fun bx => ?_; (repeat (first | refine V.stepY rfl ?_ | refine V.loadY rfl rfl rfl rfl rfl rfl ?_ | refine V.store rfl rfl rfl rfl rfl rfl rfl ?_ | refine V.condT rfl ?_ | refine V.condF rfl ?_ | refine V.skip rfl rfl ?_ | refine V.skipU rfl rfl rfl ?_ | refine V.pickT rfl rfl rfl rfl rfl ?_ | refine V.pickF rfl rfl rfl rfl rfl ?_ | refine V.step rfl ?_ | refine V.load rfl rfl rfl rfl rfl rfl ?_)); refine V.litP rfl rfl rfl rfl rfl rfl fun b2 h2' hle2 hat2 => ?_; (repeat (first | refine V.stepY rfl ?_ | refine V.loadY rfl rfl rfl rfl rfl rfl ?_ | refine V.store rfl rfl rfl rfl rfl rfl rfl ?_ | refine V.condT rfl ?_ | refine V.condF rfl ?_ | refine V.skip rfl rfl ?_ | refine V.skipU rfl rfl rfl ?_ | refine V.pickT rfl rfl rfl rfl rfl ?_ | refine V.pickF rfl rfl rfl rfl rfl ?_ | refine V.step rfl ?_ | refine V.load rfl rfl rfl rfl rfl rfl ?_)); refine V.callIs rfl rfl rfl rfl rfl rfl (top_does w0 _ _ _ _ _ hat2 _) ?_; (repeat (first | refine V.stepY rfl ?_ | refine V.loadY rfl rfl rfl rfl rfl rfl ?_ | refine V.store rfl rfl rfl rfl rfl rfl rfl ?_ | refine V.condT rfl ?_ | refine V.condF rfl ?_ | refine V.skip rfl rfl ?_ | refine V.skipU rfl rfl rfl ?_ | refine V.pickT rfl rfl rfl rfl rfl ?_ | refine V.pickF rfl rfl rfl rfl rfl ?_ | refine V.step rfl ?_ | refine V.load rfl rfl rfl rfl rfl rfl ?_)); refine retC0 rfl rfl rfl rfl rfl rfl rfl ⟨?_, hle2, (by repeat (first | exact List.Sublist.refl _ | apply List.Sublist.cons))⟩; (refine agg_eq ?_ ?_ rfl <;> (simp [jn, sureB, easyB, quietB, KE.kind, KE.oper, KE.to, KE.n, KE.v, KE.l] <;> (try split) <;> (try omega)))
  · refine Does.is (Does.of_V (cfg w0 62 Tryd.f62 132 (RIs (.agg ⟨nrc _⟩) h L) Tryd.func62) rfl rfl rfl rfl rfl rfl ?_); (repeat (first | refine V.stepY rfl ?_ | refine V.loadY rfl rfl rfl rfl rfl rfl ?_ | refine V.store rfl rfl rfl rfl rfl rfl rfl ?_ | refine V.condT rfl ?_ | refine V.condF rfl ?_ | refine V.skip rfl rfl ?_ | refine V.skipU rfl rfl rfl ?_ | refine V.pickT rfl rfl rfl rfl rfl ?_ | refine V.pickF rfl rfl rfl rfl rfl ?_ | refine V.step rfl ?_ | refine V.load rfl rfl rfl rfl rfl rfl ?_)); refine V.box rfl rfl rfl rfl rfl rfl fun be => ?_; refine V.alloc rfl rfl rfl rfl rfl rfl fun bx => ?_; (repeat (first | refine V.stepY rfl ?_ | refine V.loadY rfl rfl rfl rfl rfl rfl ?_ | refine V.store rfl rfl rfl rfl rfl rfl rfl ?_ | refine V.condT rfl ?_ | refine V.condF rfl ?_ | refine V.skip rfl rfl ?_ | refine V.skipU rfl rfl rfl ?_ | refine V.pickT rfl rfl rfl rfl rfl ?_ | refine V.pickF rfl rfl rfl rfl rfl ?_ | refine V.step rfl ?_ | refine V.load rfl rfl rfl rfl rfl rfl ?_)); refine V.index rfl rfl rfl rfl rfl rfl (by decide) (by decide) ?_; refine V.loadHA rfl rfl rfl rfl rfl ha rfl rfl ?_; refine V.alloc rfl rfl rfl rfl rfl rfl fun bx => ?_; (repeat (first | refine V.stepY rfl ?_ | refine V.loadY rfl rfl rfl rfl rfl rfl ?_ | refine V.store rfl rfl rfl rfl rfl rfl rfl ?_ | refine V.condT rfl ?_ | refine V.condF rfl ?_ | refine V.skip rfl rfl ?_ | refine V.skipU rfl rfl rfl ?_ | refine V.pickT rfl rfl rfl rfl rfl ?_ | refine V.pickF rfl rfl rfl rfl rfl ?_ | refine V.step rfl ?_ | refine V.load rfl rfl rfl rfl rfl rfl ?_)); refine V.litP rfl rfl rfl rfl rfl rfl fun b2 h2' hle2 hat2 => ?_; (repeat (first | refine V.stepY rfl ?_ | refine V.loadY rfl rfl rfl rfl rfl rfl ?_ | refine V.store rfl rfl rfl rfl rfl rfl rfl ?_ | refine V.condT rfl ?_ | refine V.condF rfl ?_ | refine V.skip rfl rfl ?_ | refine V.skipU rfl rfl rfl ?_ | refine V.pickT rfl rfl rfl rfl rfl ?_ | refine V.pickF rfl rfl rfl rfl rfl ?_ | refine V.step rfl ?_ | refine V.load rfl rfl rfl rfl rfl rfl ?_)); refine V.callIs rfl rfl rfl rfl rfl rfl (top_does w0 _ _ _ _ _ hat2 _) ?_; (repeat (first | refine V.stepY rfl ?_ | refine V.loadY rfl rfl rfl rfl rfl rfl ?_ | refine V.store rfl rfl rfl rfl rfl rfl rfl ?_ | refine V.condT rfl ?_ | refine V.condF rfl ?_ | refine V.skip rfl rfl ?_ | refine V.skipU rfl rfl rfl ?_ | refine V.pickT rfl rfl rfl rfl rfl ?_ | refine V.pickF rfl rfl rfl rfl rfl ?_ | refine V.step rfl ?_ | refine V.load rfl rfl rfl rfl rfl rfl ?_)); refine retC0 rfl rfl rfl rfl rfl rfl rfl ⟨?_, hle2, (by repeat (first | exact List.Sublist.refl _ | apply List.Sublist.cons))⟩; (refine agg_eq ?_ ?_ rfl <;> (simp [jn, sureB, easyB, quietB, KE.kind, KE.oper, KE.to, KE.n, KE.v, KE.l] <;> (try split) <;> (try omega)))
theorem join4_does (w0 : World) (h : GH) (hq : atH h 0 0 quietL) (L : List Ent) (o : Int) (h1 : 23 ≤ o) (h2 : o ≤ 26) (x : NR) (p : Option Addr) (m q : Nat) (b of c : Nat) (ha : atH h b of (nrc x)) :
    Does Tryd.prog w0 62 [.agg ⟨[.int .u8 4, .int .u8 o, .int .u8 0, .int .i32 0, .int .i64 0, .slice p m q]⟩, .slice (some ⟨b, of, none⟩) 1 c] h L (Is (.agg ⟨nrc (jn 4 o 0 0 0 [x])⟩) h L) := by
  have ho : o = 23 ∨ o = 24 ∨ o = 25 ∨ o = 26 := by omega
  obtain ⟨s, r, u⟩ := x
  rcases ho with rfl | rfl | rfl | rfl <;> cases s
  · refine Does.is (Does.of_V (cfg w0 62 Tryd.f62 132 (RIs (.agg ⟨nrc _⟩) h L) Tryd.func62) rfl rfl rfl rfl rfl rfl ?_); (repeat (first | refine V.stepY rfl ?_ | refine V.loadY rfl rfl rfl rfl rfl rfl ?_ | refine V.store rfl rfl rfl rfl rfl rfl rfl ?_ | refine V.condT rfl ?_ | refine V.condF rfl ?_ | refine V.skip rfl rfl ?_ | refine V.skipU rfl rfl rfl ?_ | refine V.pickT rfl rfl rfl rfl rfl ?_ | refine V.pickF rfl rfl rfl rfl rfl ?_ | refine V.step rfl ?_ | refine V.load rfl rfl rfl rfl rfl rfl ?_)); refine V.box rfl rfl rfl rfl rfl rfl fun be => ?_; refine V.alloc rfl rfl rfl rfl rfl rfl fun bx => ?_; (repeat (first | refine V.stepY rfl ?_ | refine V.loadY rfl rfl rfl rfl rfl rfl ?_ | refine V.store rfl rfl rfl rfl rfl rfl rfl ?_ | refine V.condT rfl ?_ | refine V.condF rfl ?_ | refine V.skip rfl rfl ?_ | refine V.skipU rfl rfl rfl ?_ | refine V.pickT rfl rfl rfl rfl rfl ?_ | refine V.pickF rfl rfl rfl rfl rfl ?_ | refine V.step rfl ?_ | refine V.load rfl rfl rfl rfl rfl rfl ?_)); refine V.index rfl rfl rfl rfl rfl rfl (by decide) (by decide) ?_; refine V.loadHA rfl rfl rfl rfl rfl ha rfl rfl ?_; refine V.alloc rfl rfl rfl rfl rfl rfl fun bx => ?_; (repeat (first | refine V.stepY rfl ?_ | refine V.loadY rfl rfl rfl rfl rfl rfl ?_ | refine V.store rfl rfl rfl rfl rfl rfl rfl ?_ | refine V.condT rfl ?_ | refine V.condF rfl ?_ | refine V.skip rfl rfl ?_ | refine V.skipU rfl rfl rfl ?_ | refine V.pickT rfl rfl rfl rfl rfl ?_ | refine V.pickF rfl rfl rfl rfl rfl ?_ | refine V.step rfl ?_ | refine V.load rfl rfl rfl rfl rfl rfl ?_)); refine V.litP rfl rfl rfl rfl rfl rfl fun b2 h2' hle2 hat2 => ?_; (repeat (first | refine V.stepY rfl ?_ | refine V.loadY rfl rfl rfl rfl rfl rfl ?_ | refine V.store rfl rfl rfl rfl rfl rfl rfl ?_ | refine V.condT rfl ?_ | refine V.condF rfl ?_ | refine V.skip rfl rfl ?_ | refine V.skipU rfl rfl rfl ?_ | refine V.pickT rfl rfl rfl rfl rfl ?_ | refine V.pickF rfl rfl rfl rfl rfl ?_ | refine V.step rfl ?_ | refine V.load rfl rfl rfl rfl rfl rfl ?_)); refine V.callIs rfl rfl rfl rfl rfl rfl (top_does w0 _ _ _ _ _ hat2 _) ?_; (repeat (first | refine V.stepY rfl ?_ | refine V.loadY rfl rfl rfl rfl rfl rfl ?_ | refine V.store rfl rfl rfl rfl rfl rfl rfl ?_ | refine V.condT rfl ?_ | refine V.condF rfl ?_ | refine V.skip rfl rfl ?_ | refine V.skipU rfl rfl rfl ?_ | refine V.pickT rfl rfl rfl rfl rfl ?_ | refine V.pickF rfl rfl rfl rfl rfl ?_ | refine V.step rfl ?_ | refine V.load rfl rfl rfl rfl rfl rfl ?_)); refine retC0 rfl rfl rfl rfl rfl rfl rfl ⟨?_, hle2, (by repeat (first | exact List.Sublist.refl _ | apply List.Sublist.cons))⟩; (refine agg_eq ?_ ?_ rfl <;> (simp [jn, sureB, easyB, quietB, KE.kind, KE.oper, KE.to, KE.n, KE.v, KE.l] <;> (try split) <;> (try omega)))
  · refine Does.is (Does.of_V (cfg w0 62 Tryd.f62 132 (RIs (.agg ⟨nrc _⟩) h L) Tryd.func62) rfl rfl rfl rfl rfl rfl ?_); (repeat (first | refine V.stepY rfl ?_ | refine V.loadY rfl rfl rfl rfl rfl rfl ?_ | refine V.store rfl rfl rfl rfl rfl rfl rfl ?_ | refine V.condT rfl ?_ | refine V.condF rfl ?_ | refine V.skip rfl rfl ?_ | refine V.skipU rfl rfl rfl ?_ | refine V.pickT rfl rfl rfl rfl rfl ?_ | refine V.pickF rfl rfl rfl rfl rfl ?_ | refine V.step rfl ?_ | refine V.load rfl rfl rfl rfl rfl rfl ?_)); refine V.box rfl rfl rfl rfl rfl rfl fun be => ?_; refine V.alloc rfl rfl rfl rfl rfl rfl fun bx => ?_; (repeat (first | refine V.stepY rfl ?_ | refine V.loadY rfl rfl rfl rfl rfl rfl ?_ | refine V.store rfl rfl rfl rfl rfl rfl rfl ?_ | refine V.condT rfl ?_ | refine V.condF rfl ?_ | refine V.skip rfl rfl ?_ | refine V.skipU rfl rfl rfl ?_ | refine V.pickT rfl rfl rfl rfl rfl ?_ | refine V.pickF rfl rfl rfl rfl rfl ?_ | refine V.step rfl ?_ | refine V.load rfl rfl rfl rfl rfl rfl ?_)); refine V.index rfl rfl rfl rfl rfl rfl (by decide) (by decide) ?_; refine V.loadHA rfl rfl rfl rfl rfl ha rfl rfl ?_; refine V.alloc rfl rfl rfl rfl rfl rfl fun bx => ?_; (repeat (first | refine V.stepY rfl ?_ | refine V.loadY rfl rfl rfl rfl rfl rfl ?_ | refine V.store rfl rfl rfl rfl rfl rfl rfl ?_ | refine V.condT rfl ?_ | refine V.condF rfl ?_ | refine V.skip rfl rfl ?_ | refine V.skipU rfl rfl rfl ?_ | refine V.pickT rfl rfl rfl rfl rfl ?_ | refine V.pickF rfl rfl rfl rfl rfl ?_ | refine V.step rfl ?_ | refine V.load rfl rfl rfl rfl rfl rfl ?_)); refine V.litP rfl rfl rfl rfl rfl rfl fun b2 h2' hle2 hat2 => ?_; (repeat (first | refine V.stepY rfl ?_ | refine V.loadY rfl rfl rfl rfl rfl rfl ?_ | refine V.store rfl rfl rfl rfl rfl rfl rfl ?_ | refine V.condT rfl ?_ | refine V.condF rfl ?_ | refine V.skip rfl rfl ?_ | refine V.skipU rfl rfl rfl ?_ | refine V.pickT rfl rfl rfl rfl rfl ?_ | refine V.pickF rfl rfl rfl rfl rfl ?_ | refine V.step rfl ?_ | refine V.load rfl rfl rfl rfl rfl rfl ?_)); refine V.callIs rfl rfl rfl rfl rfl rfl (top_does w0 _ _ _ _ _ hat2 _) ?_; (repeat (first | refine V.stepY rfl ?_ | refine V.loadY rfl rfl rfl rfl rfl rfl ?_ | refine V.store rfl rfl rfl rfl rfl rfl rfl ?_ | refine V.condT rfl ?_ | refine V.condF rfl ?_ | refine V.skip rfl rfl ?_ | refine V.skipU rfl rfl rfl ?_ | refine V.pickT rfl rfl rfl rfl rfl ?_ | refine V.pickF rfl rfl rfl rfl rfl ?_ | refine V.step rfl ?_ | refine V.load rfl rfl rfl rfl rfl rfl ?_)); refine V.indexY rfl rfl rfl rfl rfl rfl (by decide) (by decide) ?_; refine V.loadHY rfl rfl rfl rfl rfl (quiet_at (o := 23) (hq.mono hle2) (by decide) (by decide)) rfl ?_; (repeat (first | refine V.stepY rfl ?_ | refine V.loadY rfl rfl rfl rfl rfl rfl ?_ | refine V.store rfl rfl rfl rfl rfl rfl rfl ?_ | refine V.condT rfl ?_ | refine V.condF rfl ?_ | refine V.skip rfl rfl ?_ | refine V.skipU rfl rfl rfl ?_ | refine V.pickT rfl rfl rfl rfl rfl ?_ | refine V.pickF rfl rfl rfl rfl rfl ?_ | refine V.step rfl ?_ | refine V.load rfl rfl rfl rfl rfl rfl ?_)); refine retC0 rfl rfl rfl rfl rfl rfl rfl ⟨?_, hle2, (by repeat (first | exact List.Sublist.refl _ | apply List.Sublist.cons))⟩; (refine agg_eq ?_ ?_ rfl <;> (simp [jn, sureB, easyB, quietB, KE.kind, KE.oper, KE.to, KE.n, KE.v, KE.l] <;> (try split) <;> (try omega)))
  · refine Does.is (Does.of_V (cfg w0 62 Tryd.f62 132 (RIs (.agg ⟨nrc _⟩) h L) Tryd.func62) rfl rfl rfl rfl rfl rfl ?_); (repeat (first | refine V.stepY rfl ?_ | refine V.loadY rfl rfl rfl rfl rfl rfl ?_ | refine V.store rfl rfl rfl rfl rfl rfl rfl ?_ | refine V.condT rfl ?_ | refine V.condF rfl ?_ | refine V.skip rfl rfl ?_ | refine V.skipU rfl rfl rfl ?_ | refine V.pickT rfl rfl rfl rfl rfl ?_ | refine V.pickF rfl rfl rfl rfl rfl ?_ | refine V.step rfl ?_ | refine V.load rfl rfl rfl rfl rfl rfl ?_)); refine V.box rfl rfl rfl rfl rfl rfl fun be => ?_; refine V.alloc rfl rfl rfl rfl rfl rfl fun bx => ?_; (repeat (first | refine V.stepY rfl ?_ | refine V.loadY rfl rfl rfl rfl rfl rfl ?_ | refine V.store rfl rfl rfl rfl rfl rfl rfl ?_ | refine V.condT rfl ?_ | refine V.condF rfl ?_ | refine V.skip rfl rfl ?_ | refine V.skipU rfl rfl rfl ?_ | refine V.pickT rfl rfl rfl rfl rfl ?_ | refine V.pickF rfl rfl rfl rfl rfl ?_ | refine V.step rfl ?_ | refine V.load rfl rfl rfl rfl rfl rfl ?_)); refine V.index rfl rfl rfl rfl rfl rfl (by decide) (by decide) ?_; refine V.loadHA rfl rfl rfl rfl rfl ha rfl rfl ?_; refine V.alloc rfl rfl rfl rfl rfl rfl fun bx => ?_; (repeat (first | refine V.stepY rfl ?_ | refine V.loadY rfl rfl rfl rfl rfl rfl ?_ | refine V.store rfl rfl rfl rfl rfl rfl rfl ?_ | refine V.condT rfl ?_ | refine V.condF rfl ?_ | refine V.skip rfl rfl ?_ | refine V.skipU rfl rfl rfl ?_ | refine V.pickT rfl rfl rfl rfl rfl ?_ | refine V.pickF rfl rfl rfl rfl rfl ?_ | refine V.step rfl ?_ | refine V.load rfl rfl rfl rfl rfl rfl ?_)); refine V.litP rfl rfl rfl rfl rfl rfl fun b2 h2' hle2 hat2 => ?_; (repeat (first | refine V.stepY rfl ?_ | refine V.loadY rfl rfl rfl rfl rfl rfl ?_ | refine V.store rfl rfl rfl rfl rfl rfl rfl ?_ | refine V.condT rfl ?_ | refine V.condF rfl ?_ | refine V.skip rfl rfl ?_ | refine V.skipU rfl rfl rfl ?_ | refine V.pickT rfl rfl rfl rfl rfl ?_ | refine V.pickF rfl rfl rfl rfl rfl ?_ | refine V.step rfl ?_ | refine V.load rfl rfl rfl rfl rfl rfl ?_)); refine V.callIs rfl rfl rfl rfl rfl rfl (top_does w0 _ _ _ _ _ hat2 _) ?_; (repeat (first | refine V.stepY rfl ?_ | refine V.loadY rfl rfl rfl rfl rfl rfl ?_ | refine V.store rfl rfl rfl rfl rfl rfl rfl ?_ | refine V.condT rfl ?_ | refine V.condF rfl ?_ | refine V.skip rfl rfl ?_ | refine V.skipU rfl rfl rfl ?_ | refine V.pickT rfl rfl rfl rfl rfl ?_ | refine V.pickF rfl rfl rfl rfl rfl ?_ | refine V.step rfl ?_ | refine V.load rfl rfl rfl rfl rfl rfl ?_)); refine retC0 rfl rfl rfl rfl rfl rfl rfl ⟨?_, hle2, (by repeat (first | exact List.Sublist.refl _ | apply List.Sublist.cons))⟩; (refine agg_eq ?_ ?_ rfl <;> (simp [jn, sureB, easyB, quietB, KE.kind, KE.oper, KE.to, KE.n, KE.v, KE.l] <;> (try split) <;> (try omega)))
  · refine Does.is (Does.of_V (cfg w0 62 Tryd.f62 132 (RIs (.agg ⟨nrc _⟩) h L) Tryd.func62) rfl rfl rfl rfl rfl rfl ?_); (repeat (first | refine V.stepY rfl ?_ | refine V.loadY rfl rfl rfl rfl rfl rfl ?_ | refine V.store rfl rfl rfl rfl rfl rfl rfl ?_ | refine V.condT rfl ?_ | refine V.condF rfl ?_ | refine V.skip rfl rfl ?_ | refine V.skipU rfl rfl rfl ?_ | refine V.pickT rfl rfl rfl rfl rfl ?_ | refine V.pickF rfl rfl rfl rfl rfl ?_ | refine V.step rfl ?_ | refine V.load rfl rfl rfl rfl rfl rfl ?_)); refine V.box rfl rfl rfl rfl rfl rfl fun be => ?_; refine V.alloc rfl rfl rfl rfl rfl rfl fun bx => ?_; (repeat (first | refine V.stepY rfl ?_ | refine V.loadY rfl rfl rfl rfl rfl rfl ?_ | refine V.store rfl rfl rfl rfl rfl rfl rfl ?_ | refine V.condT rfl ?_ | refine V.condF rfl ?_ | refine V.skip rfl rfl ?_ | refine V.skipU rfl rfl rfl ?_ | refine V.pickT rfl rfl rfl rfl rfl ?_ | refine V.pickF rfl rfl rfl rfl rfl ?_ | refine V.step rfl ?_ | refine V.load rfl rfl rfl rfl rfl rfl ?_)); refine V.index rfl rfl rfl rfl rfl rfl (by decide) (by decide) ?_; refine V.loadHA rfl rfl rfl rfl rfl ha rfl rfl ?_; refine V.alloc rfl rfl rfl rfl rfl rfl fun bx => ?_; (repeat (first | refine V.stepY rfl ?_ | refine V.loadY rfl rfl rfl rfl rfl rfl ?_ | refine V.store rfl rfl rfl rfl rfl rfl rfl ?_ | refine V.condT rfl ?_ | refine V.condF rfl ?_ | refine V.skip rfl rfl ?_ | refine V.skipU rfl rfl rfl ?_ | refine V.pickT rfl rfl rfl rfl rfl ?_ | refine V.pickF rfl rfl rfl rfl rfl ?_ | refine V.step rfl ?_ | refine V.load rfl rfl rfl rfl rfl rfl ?_)); refine V.litP rfl rfl rfl rfl rfl rfl fun b2 h2' hle2 hat2 => ?_; (repeat (first | refine V.stepY rfl ?_ | refine V.loadY rfl rfl rfl rfl rfl rfl ?_ | refine V.store rfl rfl rfl rfl rfl rfl rfl ?_ | refine V.condT rfl ?_ | refine V.condF rfl ?_ | refine V.skip rfl rfl ?_ | refine V.skipU rfl rfl rfl ?_ | refine V.pickT rfl rfl rfl rfl rfl ?_ | refine V.pickF rfl rfl rfl rfl rfl ?_ | refine V.step rfl ?_ | refine V.load rfl rfl rfl rfl rfl rfl ?_)); refine V.callIs rfl rfl rfl rfl rfl rfl (top_does w0 _ _ _ _ _ hat2 _) ?_; (repeat (first | refine V.stepY rfl ?_ | refine V.loadY rfl rfl rfl rfl rfl rfl ?_ | refine V.store rfl rfl rfl rfl rfl rfl rfl ?_ | refine V.condT rfl ?_ | refine V.condF rfl ?_ | refine V.skip rfl rfl ?_ | refine V.skipU rfl rfl rfl ?_ | refine V.pickT rfl rfl rfl rfl rfl ?_ | refine V.pickF rfl rfl rfl rfl rfl ?_ | refine V.step rfl ?_ | refine V.load rfl rfl rfl rfl rfl rfl ?_)); refine V.indexY rfl rfl rfl rfl rfl rfl (by decide) (by decide) ?_; refine V.loadHY rfl rfl rfl rfl rfl (quiet_at (o := 24) (hq.mono hle2) (by decide) (by decide)) rfl ?_; (repeat (first | refine V.stepY rfl ?_ | refine V.loadY rfl rfl rfl rfl rfl rfl ?_ | refine V.store rfl rfl rfl rfl rfl rfl rfl ?_ | refine V.condT rfl ?_ | refine V.condF rfl ?_ | refine V.skip rfl rfl ?_ | refine V.skipU rfl rfl rfl ?_ | refine V.pickT rfl rfl rfl rfl rfl ?_ | refine V.pickF rfl rfl rfl rfl rfl ?_ | refine V.step rfl ?_ | refine V.load rfl rfl rfl rfl rfl rfl ?_)); refine retC0 rfl rfl rfl rfl rfl rfl rfl ⟨?_, hle2, (by repeat (first | exact List.Sublist.refl _ | apply List.Sublist.cons))⟩; (refine agg_eq ?_ ?_ rfl <;> (simp [jn, sureB, easyB, quietB, KE.kind, KE.oper, KE.to, KE.n, KE.v, KE.l] <;> (try split) <;> (try omega)))
  · refine Does.is (Does.of_V (cfg w0 62 Tryd.f62 132 (RIs (.agg ⟨nrc _⟩) h L) Tryd.func62) rfl rfl rfl rfl rfl rfl ?_); (repeat (first | refine V.stepY rfl ?_ | refine V.loadY rfl rfl rfl rfl rfl rfl ?_ | refine V.store rfl rfl rfl rfl rfl rfl rfl ?_ | refine V.condT rfl ?_ | refine V.condF rfl ?_ | refine V.skip rfl rfl ?_ | refine V.skipU rfl rfl rfl ?_ | refine V.pickT rfl rfl rfl rfl rfl ?_ | refine V.pickF rfl rfl rfl rfl rfl ?_ | refine V.step rfl ?_ | refine V.load rfl rfl rfl rfl rfl rfl ?_)); refine V.box rfl rfl rfl rfl rfl rfl fun be => ?_; refine V.alloc rfl rfl rfl rfl rfl rfl fun bx => ?_; (repeat (first | refine V.stepY rfl ?_ | refine V.loadY rfl rfl rfl rfl rfl rfl ?_ | refine V.store rfl rfl rfl rfl rfl rfl rfl ?_ | refine V.condT rfl ?_ | refine V.condF rfl ?_ | refine V.skip rfl rfl ?_ | refine V.skipU rfl rfl rfl ?_ | refine V.pickT rfl rfl rfl rfl rfl ?_ | refine V.pickF rfl rfl rfl rfl rfl ?_ | refine V.step rfl ?_ | refine V.load rfl rfl rfl rfl rfl rfl ?_)); refine V.index rfl rfl rfl rfl rfl rfl (by decide) (by decide) ?_; refine V.loadHA rfl rfl rfl rfl rfl ha rfl rfl ?_; refine V.alloc rfl rfl rfl rfl rfl rfl fun bx => ?_; (repeat (first | refine V.stepY rfl ?_ | refine V.loadY rfl rfl rfl rfl rfl rfl ?_ | refine V.store rfl rfl rfl rfl rfl rfl rfl ?_ | refine V.condT rfl ?_ | refine V.condF rfl ?_ | refine V.skip rfl rfl ?_ | refine V.skipU rfl rfl rfl ?_ | refine V.pickT rfl rfl rfl rfl rfl ?_ | refine V.pickF rfl rfl rfl rfl rfl ?_ | refine V.step rfl ?_ | refine V.load rfl rfl rfl rfl rfl rfl ?_)); refine retC0 rfl rfl rfl rfl rfl rfl rfl ⟨?_, GH.le_refl _, (by repeat (first | exact List.Sublist.refl _ | apply List.Sublist.cons))⟩; (refine agg_eq ?_ ?_ rfl <;> (simp [jn, sureB, easyB, quietB, KE.kind, KE.oper, KE.to, KE.n, KE.v, KE.l] <;> (try split) <;> (try omega)))
  · refine Does.is (Does.of_V (cfg w0 62 Tryd.f62 132 (RIs (.agg ⟨nrc _⟩) h L) Tryd.func62) rfl rfl rfl rfl rfl rfl ?_); (repeat (first | refine V.stepY rfl ?_ | refine V.loadY rfl rfl rfl rfl rfl rfl ?_ | refine V.store rfl rfl rfl rfl rfl rfl rfl ?_ | refine V.condT rfl ?_ | refine V.condF rfl ?_ | refine V.skip rfl rfl ?_ | refine V.skipU rfl rfl rfl ?_ | refine V.pickT rfl rfl rfl rfl rfl ?_ | refine V.pickF rfl rfl rfl rfl rfl ?_ | refine V.step rfl ?_ | refine V.load rfl rfl rfl rfl rfl rfl ?_)); refine V.box rfl rfl rfl rfl rfl rfl fun be => ?_; refine V.alloc rfl rfl rfl rfl rfl rfl fun bx => ?_; (repeat (first | refine V.stepY rfl ?_ | refine V.loadY rfl rfl rfl rfl rfl rfl ?_ | refine V.store rfl rfl rfl rfl rfl rfl rfl ?_ | refine V.condT rfl ?_ | refine V.condF rfl ?_ | refine V.skip rfl rfl ?_ | refine V.skipU rfl rfl rfl ?_ | refine V.pickT rfl rfl rfl rfl rfl ?_ | refine V.pickF rfl rfl rfl rfl rfl ?_ | refine V.step rfl ?_ | refine V.load rfl rfl rfl rfl rfl rfl ?_)); refine V.index rfl rfl rfl rfl rfl rfl (by decide) (by decide) ?_; refine V.loadHA rfl rfl rfl rfl rfl ha rfl rfl ?_; refine V.alloc rfl rfl rfl rfl rfl rfl fun bx => ?_; (repeat (first | refine V.stepY rfl ?_ | refine V.loadY rfl rfl rfl rfl rfl rfl ?_ | refine V.store rfl rfl rfl rfl rfl rfl rfl ?_ | refine V.condT rfl ?_ | refine V.condF rfl ?_ | refine V.skip rfl rfl ?_ | refine V.skipU rfl rfl rfl ?_ | refine V.pickT rfl rfl rfl rfl rfl ?_ | refine V.pickF rfl rfl rfl rfl rfl ?_ | refine V.step rfl ?_ | refine V.load rfl rfl rfl rfl rfl rfl ?_)); refine retC0 rfl rfl rfl rfl rfl rfl rfl ⟨?_, GH.le_refl _, (by repeat (first | exact List.Sublist.refl _ | apply List.Sublist.cons))⟩; (refine agg_eq ?_ ?_ rfl <;> (simp [jn, sureB, easyB, quietB, KE.kind, KE.oper, KE.to, KE.n, KE.v, KE.l] <;> (try split) <;> (try omega)))
  · refine Does.is (Does.of_V (cfg w0 62 Tryd.f62 132 (RIs (.agg ⟨nrc _⟩) h L) Tryd.func62) rfl rfl rfl rfl rfl rfl ?_); (repeat (first | refine V.stepY rfl ?_ | refine V.loadY rfl rfl rfl rfl rfl rfl ?_ | refine V.store rfl rfl rfl rfl rfl rfl rfl ?_ | refine V.condT rfl ?_ | refine V.condF rfl ?_ | refine V.skip rfl rfl ?_ | refine V.skipU rfl rfl rfl ?_ | refine V.pickT rfl rfl rfl rfl rfl ?_ | refine V.pickF rfl rfl rfl rfl rfl ?_ | refine V.step rfl ?_ | refine V.load rfl rfl rfl rfl rfl rfl ?_)); refine V.box rfl rfl rfl rfl rfl rfl fun be => ?_; refine V.alloc rfl rfl rfl rfl rfl rfl fun bx => ?_; (repeat (first | refine V.stepY rfl ?_ | refine V.loadY rfl rfl rfl rfl rfl rfl ?_ | refine V.store rfl rfl rfl rfl rfl rfl rfl ?_ | refine V.condT rfl ?_ | refine V.condF rfl ?_ | refine V.skip rfl rfl ?_ | refine V.skipU rfl rfl rfl ?_ | refine V.pickT rfl rfl rfl rfl rfl ?_ | refine V.pickF rfl rfl rfl rfl rfl ?_ | refine V.step rfl ?_ | refine V.load rfl rfl rfl rfl rfl rfl ?_)); refine V.index rfl rfl rfl rfl rfl rfl (by decide) (by decide) ?_; refine V.loadHA rfl rfl rfl rfl rfl ha rfl rfl ?_; refine V.alloc rfl rfl rfl rfl rfl rfl fun bx => ?_; (repeat (first | refine V.stepY rfl ?_ | refine V.loadY rfl rfl rfl rfl rfl rfl ?_ | refine V.store rfl rfl rfl rfl rfl rfl rfl ?_ | refine V.condT rfl ?_ | refine V.condF rfl ?_ | refine V.skip rfl rfl ?_ | refine V.skipU rfl rfl rfl ?_ | refine V.pickT rfl rfl rfl rfl rfl ?_ | refine V.pickF rfl rfl rfl rfl rfl ?_ | refine V.step rfl ?_ | refine V.load rfl rfl rfl rfl rfl rfl ?_)); refine retC0 rfl rfl rfl rfl rfl rfl rfl ⟨?_, GH.le_refl _, (by repeat (first | exact List.Sublist.refl _ | apply List.Sublist.cons))⟩; (refine agg_eq ?_ ?_ rfl <;> (simp [jn, sureB, easyB, quietB, KE.kind, KE.oper, KE.to, KE.n, KE.v, KE.l] <;> (try split) <;> (try omega)))
  · refine Does.is (Does.of_V (cfg w0 62 Tryd.f62 132 (RIs (.agg ⟨nrc _⟩) h L) Tryd.func62) rfl rfl rfl rfl rfl rfl ?_); (repeat (first | refine V.stepY rfl ?_ | refine V.loadY rfl rfl rfl rfl rfl rfl ?_ | refine V.store rfl rfl rfl rfl rfl rfl rfl ?_ | refine V.condT rfl ?_ | refine V.condF rfl ?_ | refine V.skip rfl rfl ?_ | refine V.skipU rfl rfl rfl ?_ | refine V.pickT rfl rfl rfl rfl rfl ?_ | refine V.pickF rfl rfl rfl rfl rfl ?_ | refine V.step rfl ?_ | refine V.load rfl rfl rfl rfl rfl rfl ?_)); refine V.box rfl rfl rfl rfl rfl rfl fun be => ?_; refine V.alloc rfl rfl rfl rfl rfl rfl fun bx => ?_; (repeat (first | refine V.stepY rfl ?_ | refine V.loadY rfl rfl rfl rfl rfl rfl ?_ | refine V.store rfl rfl rfl rfl rfl rfl rfl ?_ | refine V.condT rfl ?_ | refine V.condF rfl ?_ | refine V.skip rfl rfl ?_ | refine V.skipU rfl rfl rfl ?_ | refine V.pickT rfl rfl rfl rfl rfl ?_ | refine V.pickF rfl rfl rfl rfl rfl ?_ | refine V.step rfl ?_ | refine V.load rfl rfl rfl rfl rfl rfl ?_)); refine V.index rfl rfl rfl rfl rfl rfl (by decide) (by decide) ?_; refine V.loadHA rfl rfl rfl rfl rfl ha rfl rfl ?_; refine V.alloc rfl rfl rfl rfl rfl rfl fun bx => ?_; (repeat (first | refine V.stepY rfl ?_ | refine V.loadY rfl rfl rfl rfl rfl rfl ?_ | refine V.store rfl rfl rfl rfl rfl rfl rfl ?_ | refine V.condT rfl ?_ | refine V.condF rfl ?_ | refine V.skip rfl rfl ?_ | refine V.skipU rfl rfl rfl ?_ | refine V.pickT rfl rfl rfl rfl rfl ?_ | refine V.pickF rfl rfl rfl rfl rfl ?_ | refine V.step rfl ?_ | refine V.load rfl rfl rfl rfl rfl rfl ?_)); refine retC0 rfl rfl rfl rfl rfl rfl rfl ⟨?_, GH.le_refl _, (by repeat (first | exact List.Sublist.refl _ | apply List.Sublist.cons))⟩; (refine agg_eq ?_ ?_ rfl <;> (simp [jn, sureB, easyB, quietB, KE.kind, KE.oper, KE.to, KE.n, KE.v, KE.l] <;> (try split) <;> (try omega)))
theorem join6_does (w0 : World) (h : GH) (L : List Ent) (t : Int) (h1 : 1 ≤ t) (h2 : t ≤ 3) (x : NR) (p : Option Addr) (m q : Nat) (b of c : Nat) (ha : atH h b of (nrc x)) :
    Does Tryd.prog w0 62 [.agg ⟨[.int .u8 6, .int .u8 0, .int .u8 t, .int .i32 0, .int .i64 0, .slice p m q]⟩, .slice (some ⟨b, of, none⟩) 1 c] h L (Is (.agg ⟨nrc (jn 6 0 t 0 0 [x])⟩) h L) := by
  have ho : t = 1 ∨ t = 2 ∨ t = 3 := by omega
  obtain ⟨s, r, u⟩ := x
  rcases ho with rfl | rfl | rfl <;> cases s
  · refine Does.is (Does.of_V (cfg w0 62 Tryd.f62 132 (RIs (.agg ⟨nrc _⟩) h L) Tryd.func62) rfl rfl rfl rfl rfl rfl ?_); (repeat (first | refine V.stepY rfl ?_ | refine V.loadY rfl rfl rfl rfl rfl rfl ?_ | refine V.store rfl rfl rfl rfl rfl rfl rfl ?_ | refine V.condT rfl ?_ | refine V.condF rfl ?_ | refine V.skip rfl rfl ?_ | refine V.skipU rfl rfl rfl ?_ | refine V.pickT rfl rfl rfl rfl rfl ?_ | refine V.pickF rfl rfl rfl rfl rfl ?_ | refine V.step rfl ?_ | refine V.load rfl rfl rfl rfl rfl rfl ?_)); refine V.box rfl rfl rfl rfl rfl rfl fun be => ?_; refine V.alloc rfl rfl rfl rfl rfl rfl fun bx => ?_; (repeat (first | refine V.stepY rfl ?_ | refine V.loadY rfl rfl rfl rfl rfl rfl ?_ | refine V.store rfl rfl rfl rfl rfl rfl rfl ?_ | refine V.condT rfl ?_ | refine V.condF rfl ?_ | refine V.skip rfl rfl ?_ | refine V.skipU rfl rfl rfl ?_ | refine V.pickT rfl rfl rfl rfl rfl ?_ | refine V.pickF rfl rfl rfl rfl rfl ?_ | refine V.step rfl ?_ | refine V.load rfl rfl rfl rfl rfl rfl ?_)); refine V.index rfl rfl rfl rfl rfl rfl (by decide) (by decide) ?_; refine V.loadHA rfl rfl rfl rfl rfl ha rfl rfl ?_; refine V.alloc rfl rfl rfl rfl rfl rfl fun bx => ?_; (repeat (first | refine V.stepY rfl ?_ | refine V.loadY rfl rfl rfl rfl rfl rfl ?_ | refine V.store rfl rfl rfl rfl rfl rfl rfl ?_ | refine V.condT rfl ?_ | refine V.condF rfl ?_ | refine V.skip rfl rfl ?_ | refine V.skipU rfl rfl rfl ?_ | refine V.pickT rfl rfl rfl rfl rfl ?_ | refine V.pickF rfl rfl rfl rfl rfl ?_ | refine V.step rfl ?_ | refine V.load rfl rfl rfl rfl rfl rfl ?_)); refine retC0 rfl rfl rfl rfl rfl rfl rfl ⟨?_, GH.le_refl _, (by repeat (first | exact List.Sublist.refl _ | apply List.Sublist.cons))⟩; (refine agg_eq ?_ ?_ rfl <;> (simp [jn, sureB, easyB, quietB, KE.kind, KE.oper, KE.to, KE.n, KE.v, KE.l] <;> (try split) <;> (try omega)))
  · refine Does.is (Does.of_V (cfg w0 62 Tryd.f62 132 (RIs (.agg ⟨nrc _⟩) h L) Tryd.func62) rfl rfl rfl rfl rfl rfl ?_); (repeat (first | refine V.stepY rfl ?_ | refine V.loadY rfl rfl rfl rfl rfl rfl ?_ | refine V.store rfl rfl rfl rfl rfl rfl rfl ?_ | refine V.condT rfl ?_ | refine V.condF rfl ?_ | refine V.skip rfl rfl ?_ | refine V.skipU rfl rfl rfl ?_ | refine V.pickT rfl rfl rfl rfl rfl ?_ | refine V.pickF rfl rfl rfl rfl rfl ?_ | refine V.step rfl ?_ | refine V.load rfl rfl rfl rfl rfl rfl ?_)); refine V.box rfl rfl rfl rfl rfl rfl fun be => ?_; refine V.alloc rfl rfl rfl rfl rfl rfl fun bx => ?_; (repeat (first | refine V.stepY rfl ?_ | refine V.loadY rfl rfl rfl rfl rfl rfl ?_ | refine V.store rfl rfl rfl rfl rfl rfl rfl ?_ | refine V.condT rfl ?_ | refine V.condF rfl ?_ | refine V.skip rfl rfl ?_ | refine V.skipU rfl rfl rfl ?_ | refine V.pickT rfl rfl rfl rfl rfl ?_ | refine V.pickF rfl rfl rfl rfl rfl ?_ | refine V.step rfl ?_ | refine V.load rfl rfl rfl rfl rfl rfl ?_)); refine V.index rfl rfl rfl rfl rfl rfl (by decide) (by decide) ?_; refine V.loadHA rfl rfl rfl rfl rfl ha rfl rfl ?_; refine V.alloc rfl rfl rfl rfl rfl rfl fun bx => ?_; (repeat (first | refine V.stepY rfl ?_ | refine V.loadY rfl rfl rfl rfl rfl rfl ?_ | refine V.store rfl rfl rfl rfl rfl rfl rfl ?_ | refine V.condT rfl ?_ | refine V.condF rfl ?_ | refine V.skip rfl rfl ?_ | refine V.skipU rfl rfl rfl ?_ | refine V.pickT rfl rfl rfl rfl rfl ?_ | refine V.pickF rfl rfl rfl rfl rfl ?_ | refine V.step rfl ?_ | refine V.load rfl rfl rfl rfl rfl rfl ?_)); refine retC0 rfl rfl rfl rfl rfl rfl rfl ⟨?_, GH.le_refl _, (by repeat (first | exact List.Sublist.refl _ | apply List.Sublist.cons))⟩; (refine agg_eq ?_ ?_ rfl <;> (simp [jn, sureB, easyB, quietB, KE.kind, KE.oper, KE.to, KE.n, KE.v, KE.l] <;> (try split) <;> (try omega)))
  · refine Does.is (Does.of_V (cfg w0 62 Tryd.f62 132 (RIs (.agg ⟨nrc _⟩) h L) Tryd.func62) rfl rfl rfl rfl rfl rfl ?_); (repeat (first | refine V.stepY rfl ?_ | refine V.loadY rfl rfl rfl rfl rfl rfl ?_ | refine V.store rfl rfl rfl rfl rfl rfl rfl ?_ | refine V.condT rfl ?_ | refine V.condF rfl ?_ | refine V.skip rfl rfl ?_ | refine V.skipU rfl rfl rfl ?_ | refine V.pickT rfl rfl rfl rfl rfl ?_ | refine V.pickF rfl rfl rfl rfl rfl ?_ | refine V.step rfl ?_ | refine V.load rfl rfl rfl rfl rfl rfl ?_)); refine V.box rfl rfl rfl rfl rfl rfl fun be => ?_; refine V.alloc rfl rfl rfl rfl rfl rfl fun bx => ?_; (repeat (first | refine V.stepY rfl ?_ | refine V.loadY rfl rfl rfl rfl rfl rfl ?_ | refine V.store rfl rfl rfl rfl rfl rfl rfl ?_ | refine V.condT rfl ?_ | refine V.condF rfl ?_ | refine V.skip rfl rfl ?_ | refine V.skipU rfl rfl rfl ?_ | refine V.pickT rfl rfl rfl rfl rfl ?_ | refine V.pickF rfl rfl rfl rfl rfl ?_ | refine V.step rfl ?_ | refine V.load rfl rfl rfl rfl rfl rfl ?_)); refine V.index rfl rfl rfl rfl rfl rfl (by decide) (by decide) ?_; refine V.loadHA rfl rfl rfl rfl rfl ha rfl rfl ?_; refine V.alloc rfl rfl rfl rfl rfl rfl fun bx => ?_; (repeat (first | refine V.stepY rfl ?_ | refine V.loadY rfl rfl rfl rfl rfl rfl ?_ | refine V.store rfl rfl rfl rfl rfl rfl rfl ?_ | refine V.condT rfl ?_ | refine V.condF rfl ?_ | refine V.skip rfl rfl ?_ | refine V.skipU rfl rfl rfl ?_ | refine V.pickT rfl rfl rfl rfl rfl ?_ | refine V.pickF rfl rfl rfl rfl rfl ?_ | refine V.step rfl ?_ | refine V.load rfl rfl rfl rfl rfl rfl ?_)); refine V.litP rfl rfl rfl rfl rfl rfl fun b2 h2' hle2 hat2 => ?_; (repeat (first | refine V.stepY rfl ?_ | refine V.loadY rfl rfl rfl rfl rfl rfl ?_ | refine V.store rfl rfl rfl rfl rfl rfl rfl ?_ | refine V.condT rfl ?_ | refine V.condF rfl ?_ | refine V.skip rfl rfl ?_ | refine V.skipU rfl rfl rfl ?_ | refine V.pickT rfl rfl rfl rfl rfl ?_ | refine V.pickF rfl rfl rfl rfl rfl ?_ | refine V.step rfl ?_ | refine V.load rfl rfl rfl rfl rfl rfl ?_)); refine V.callIs rfl rfl rfl rfl rfl rfl (top_does w0 _ _ _ _ _ hat2 _) ?_; (repeat (first | refine V.stepY rfl ?_ | refine V.loadY rfl rfl rfl rfl rfl rfl ?_ | refine V.store rfl rfl rfl rfl rfl rfl rfl ?_ | refine V.condT rfl ?_ | refine V.condF rfl ?_ | refine V.skip rfl rfl ?_ | refine V.skipU rfl rfl rfl ?_ | refine V.pickT rfl rfl rfl rfl rfl ?_ | refine V.pickF rfl rfl rfl rfl rfl ?_ | refine V.step rfl ?_ | refine V.load rfl rfl rfl rfl rfl rfl ?_)); refine retC0 rfl rfl rfl rfl rfl rfl rfl ⟨?_, hle2, (by repeat (first | exact List.Sublist.refl _ | apply List.Sublist.cons))⟩; (refine agg_eq ?_ ?_ rfl <;> (simp [jn, sureB, easyB, quietB, KE.kind, KE.oper, KE.to, KE.n, KE.v, KE.l] <;> (try split) <;> (try omega)))
  · refine Does.is (Does.of_V (cfg w0 62 Tryd.f62 132 (RIs (.agg ⟨nrc _⟩) h L) Tryd.func62) rfl rfl rfl rfl rfl rfl ?_); (repeat (first | refine V.stepY rfl ?_ | refine V.loadY rfl rfl rfl rfl rfl rfl ?_ | refine V.store rfl rfl rfl rfl rfl rfl rfl ?_ | refine V.condT rfl ?_ | refine V.condF rfl ?_ | refine V.skip rfl rfl ?_ | refine V.skipU rfl rfl rfl ?_ | refine V.pickT rfl rfl rfl rfl rfl ?_ | refine V.pickF rfl rfl rfl rfl rfl ?_ | refine V.step rfl ?_ | refine V.load rfl rfl rfl rfl rfl rfl ?_)); refine V.box rfl rfl rfl rfl rfl rfl fun be => ?_; refine V.alloc rfl rfl rfl rfl rfl rfl fun bx => ?_; (repeat (first | refine V.stepY rfl ?_ | refine V.loadY rfl rfl rfl rfl rfl rfl ?_ | refine V.store rfl rfl rfl rfl rfl rfl rfl ?_ | refine V.condT rfl ?_ | refine V.condF rfl ?_ | refine V.skip rfl rfl ?_ | refine V.skipU rfl rfl rfl ?_ | refine V.pickT rfl rfl rfl rfl rfl ?_ | refine V.pickF rfl rfl rfl rfl rfl ?_ | refine V.step rfl ?_ | refine V.load rfl rfl rfl rfl rfl rfl ?_)); refine V.index rfl rfl rfl rfl rfl rfl (by decide) (by decide) ?_; refine V.loadHA rfl rfl rfl rfl rfl ha rfl rfl ?_; refine V.alloc rfl rfl rfl rfl rfl rfl fun bx => ?_; (repeat (first | refine V.stepY rfl ?_ | refine V.loadY rfl rfl rfl rfl rfl rfl ?_ | refine V.store rfl rfl rfl rfl rfl rfl rfl ?_ | refine V.condT rfl ?_ | refine V.condF rfl ?_ | refine V.skip rfl rfl ?_ | refine V.skipU rfl rfl rfl ?_ | refine V.pickT rfl rfl rfl rfl rfl ?_ | refine V.pickF rfl rfl rfl rfl rfl ?_ | refine V.step rfl ?_ | refine V.load rfl rfl rfl rfl rfl rfl ?_)); refine V.litP rfl rfl rfl rfl rfl rfl fun b2 h2' hle2 hat2 => ?_; (repeat (first | refine V.stepY rfl ?_ | refine V.loadY rfl rfl rfl rfl rfl rfl ?_ | refine V.store rfl rfl rfl rfl rfl rfl rfl ?_ | refine V.condT rfl ?_ | refine V.condF rfl ?_ | refine V.skip rfl rfl ?_ | refine V.skipU rfl rfl rfl ?_ | refine V.pickT rfl rfl rfl rfl rfl ?_ | refine V.pickF rfl rfl rfl rfl rfl ?_ | refine V.step rfl ?_ | refine V.load rfl rfl rfl rfl rfl rfl ?_)); refine V.callIs rfl rfl rfl rfl rfl rfl (top_does w0 _ _ _ _ _ hat2 _) ?_; (repeat (first | refine V.stepY rfl ?_ | refine V.loadY rfl rfl rfl rfl rfl rfl ?_ | refine V.store rfl rfl rfl rfl rfl rfl rfl ?_ | refine V.condT rfl ?_ | refine V.condF rfl ?_ | refine V.skip rfl rfl ?_ | refine V.skipU rfl rfl rfl ?_ | refine V.pickT rfl rfl rfl rfl rfl ?_ | refine V.pickF rfl rfl rfl rfl rfl ?_ | refine V.step rfl ?_ | refine V.load rfl rfl rfl rfl rfl rfl ?_)); refine retC0 rfl rfl rfl rfl rfl rfl rfl ⟨?_, hle2, (by repeat (first | exact List.Sublist.refl _ | apply List.Sublist.cons))⟩; (refine agg_eq ?_ ?_ rfl <;> (simp [jn, sureB, easyB, quietB, KE.kind, KE.oper, KE.to, KE.n, KE.v, KE.l] <;> (try split) <;> (try omega)))
  · refine Does.is (Does.of_V (cfg w0 62 Tryd.f62 132 (RIs (.agg ⟨nrc _⟩) h L) Tryd.func62) rfl rfl rfl rfl rfl rfl ?_); (repeat (first | refine V.stepY rfl ?_ | refine V.loadY rfl rfl rfl rfl rfl rfl ?_ | refine V.store rfl rfl rfl rfl rfl rfl rfl ?_ | refine V.condT rfl ?_ | refine V.condF rfl ?_ | refine V.skip rfl rfl ?_ | refine V.skipU rfl rfl rfl ?_ | refine V.pickT rfl rfl rfl rfl rfl ?_ | refine V.pickF rfl rfl rfl rfl rfl ?_ | refine V.step rfl ?_ | refine V.load rfl rfl rfl rfl rfl rfl ?_)); refine V.box rfl rfl rfl rfl rfl rfl fun be => ?_; refine V.alloc rfl rfl rfl rfl rfl rfl fun bx => ?_; (repeat (first | refine V.stepY rfl ?_ | refine V.loadY rfl rfl rfl rfl rfl rfl ?_ | refine V.store rfl rfl rfl rfl rfl rfl rfl ?_ | refine V.condT rfl ?_ | refine V.condF rfl ?_ | refine V.skip rfl rfl ?_ | refine V.skipU rfl rfl rfl ?_ | refine V.pickT rfl rfl rfl rfl rfl ?_ | refine V.pickF rfl rfl rfl rfl rfl ?_ | refine V.step rfl ?_ | refine V.load rfl rfl rfl rfl rfl rfl ?_)); refine V.index rfl rfl rfl rfl rfl rfl (by decide) (by decide) ?_; refine V.loadHA rfl rfl rfl rfl rfl ha rfl rfl ?_; refine V.alloc rfl rfl rfl rfl rfl rfl fun bx => ?_; (repeat (first | refine V.stepY rfl ?_ | refine V.loadY rfl rfl rfl rfl rfl rfl ?_ | refine V.store rfl rfl rfl rfl rfl rfl rfl ?_ | refine V.condT rfl ?_ | refine V.condF rfl ?_ | refine V.skip rfl rfl ?_ | refine V.skipU rfl rfl rfl ?_ | refine V.pickT rfl rfl rfl rfl rfl ?_ | refine V.pickF rfl rfl rfl rfl rfl ?_ | refine V.step rfl ?_ | refine V.load rfl rfl rfl rfl rfl rfl ?_)); refine V.litP rfl rfl rfl rfl rfl rfl fun b2 h2' hle2 hat2 => ?_; (repeat (first | refine V.stepY rfl ?_ | refine V.loadY rfl rfl rfl rfl rfl rfl ?_ | refine V.store rfl rfl rfl rfl rfl rfl rfl ?_ | refine V.condT rfl ?_ | refine V.condF rfl ?_ | refine V.skip rfl rfl ?_ | refine V.skipU rfl rfl rfl ?_ | refine V.pickT rfl rfl rfl rfl rfl ?_ | refine V.pickF rfl rfl rfl rfl rfl ?_ | refine V.step rfl ?_ | refine V.load rfl rfl rfl rfl rfl rfl ?_)); refine V.callIs rfl rfl rfl rfl rfl rfl (top_does w0 _ _ _ _ _ hat2 _) ?_; (repeat (first | refine V.stepY rfl ?_ | refine V.loadY rfl rfl rfl rfl rfl rfl ?_ | refine V.store rfl rfl rfl rfl rfl rfl rfl ?_ | refine V.condT rfl ?_ | refine V.condF rfl ?_ | refine V.skip rfl rfl ?_ | refine V.skipU rfl rfl rfl ?_ | refine V.pickT rfl rfl rfl rfl rfl ?_ | refine V.pickF rfl rfl rfl rfl rfl ?_ | refine V.step rfl ?_ | refine V.load rfl rfl rfl rfl rfl rfl ?_)); refine retC0 rfl rfl rfl rfl rfl rfl rfl ⟨?_, hle2, (by repeat (first | exact List.Sublist.refl _ | apply List.Sublist.cons))⟩; (refine agg_eq ?_ ?_ rfl <;> (simp [jn, sureB, easyB, quietB, KE.kind, KE.oper, KE.to, KE.n, KE.v, KE.l] <;> (try split) <;> (try omega)))
  · refine Does.is (Does.of_V (cfg w0 62 Tryd.f62 132 (RIs (.agg ⟨nrc _⟩) h L) Tryd.func62) rfl rfl rfl rfl rfl rfl ?_); (repeat (first | refine V.stepY rfl ?_ | refine V.loadY rfl rfl rfl rfl rfl rfl ?_ | refine V.store rfl rfl rfl rfl rfl rfl rfl ?_ | refine V.condT rfl ?_ | refine V.condF rfl ?_ | refine V.skip rfl rfl ?_ | refine V.skipU rfl rfl rfl ?_ | refine V.pickT rfl rfl rfl rfl rfl ?_ | refine V.pickF rfl rfl rfl rfl rfl ?_ | refine V.step rfl ?_ | refine V.load rfl rfl rfl rfl rfl rfl ?_)); refine V.box rfl rfl rfl rfl rfl rfl fun be => ?_; refine V.alloc rfl rfl rfl rfl rfl rfl fun bx => ?_; (repeat (first | refine V.stepY rfl ?_ | refine V.loadY rfl rfl rfl rfl rfl rfl ?_ | refine V.store rfl rfl rfl rfl rfl rfl rfl ?_ | refine V.condT rfl ?_ | refine V.condF rfl ?_ | refine V.skip rfl rfl ?_ | refine V.skipU rfl rfl rfl ?_ | refine V.pickT rfl rfl rfl rfl rfl ?_ | refine V.pickF rfl rfl rfl rfl rfl ?_ | refine V.step rfl ?_ | refine V.load rfl rfl rfl rfl rfl rfl ?_)); refine V.index rfl rfl rfl rfl rfl rfl (by decide) (by decide) ?_; refine V.loadHA rfl rfl rfl rfl rfl ha rfl rfl ?_; refine V.alloc rfl rfl rfl rfl rfl rfl fun bx => ?_; (repeat (first | refine V.stepY rfl ?_ | refine V.loadY rfl rfl rfl rfl rfl rfl ?_ | refine V.store rfl rfl rfl rfl rfl rfl rfl ?_ | refine V.condT rfl ?_ | refine V.condF rfl ?_ | refine V.skip rfl rfl ?_ | refine V.skipU rfl rfl rfl ?_ | refine V.pickT rfl rfl rfl rfl rfl ?_ | refine V.pickF rfl rfl rfl rfl rfl ?_ | refine V.step rfl ?_ | refine V.load rfl rfl rfl rfl rfl rfl ?_)); refine V.litP rfl rfl rfl rfl rfl rfl fun b2 h2' hle2 hat2 => ?_; (repeat (first | refine V.stepY rfl ?_ | refine V.loadY rfl rfl rfl rfl rfl rfl ?_ | refine V.store rfl rfl rfl rfl rfl rfl rfl ?_ | refine V.condT rfl ?_ | refine V.condF rfl ?_ | refine V.skip rfl rfl ?_ | refine V.skipU rfl rfl rfl ?_ | refine V.pickT rfl rfl rfl rfl rfl ?_ | refine V.pickF rfl rfl rfl rfl rfl ?_ | refine V.step rfl ?_ | refine V.load rfl rfl rfl rfl rfl rfl ?_)); refine V.callIs rfl rfl rfl rfl rfl rfl (top_does w0 _ _ _ _ _ hat2 _) ?_; (repeat (first | refine V.stepY rfl ?_ | refine V.loadY rfl rfl rfl rfl rfl rfl ?_ | refine V.store rfl rfl rfl rfl rfl rfl rfl ?_ | refine V.condT rfl ?_ | refine V.condF rfl ?_ | refine V.skip rfl rfl ?_ | refine V.skipU rfl rfl rfl ?_ | refine V.pickT rfl rfl rfl rfl rfl ?_ | refine V.pickF rfl rfl rfl rfl rfl ?_ | refine V.step rfl ?_ | refine V.load rfl rfl rfl rfl rfl rfl ?_)); refine retC0 rfl rfl rfl rfl rfl rfl rfl ⟨?_, hle2, (by repeat (first | exact List.Sublist.refl _ | apply List.Sublist.cons))⟩; (refine agg_eq ?_ ?_ rfl <;> (simp [jn, sureB, easyB, quietB, KE.kind, KE.oper, KE.to, KE.n, KE.v, KE.l] <;> (try split) <;> (try omega)))
end Go.Proofs.YtgmeahcclogfmaaDoor.S22
/-!
  Chapter 22: depth.join of two.
-/
namespace Go.Proofs.YtgmeahcclogfmaaDoor.S22
open Go Go.Tp
set_option linter.unusedVariables false
set_option linter.unusedSimpArgs false
set_option maxRecDepth 100000
set_option maxHeartbeats 4000000
def YT (x y : Int) : Nat → List Value → Value → GH → Prop := yl [(17, fun _ v _ => v = .int .i64 x), (23, fun _ v _ => v = .int .i64 y)]
theorem join5_does (w0 : World) (h : GH) (hq : atH h 0 0 quietL) (L : List Ent) (o : Int) (h1 : 1 ≤ o) (h2 : o ≤ 22) (x y : NR) (hx : 0 ≤ x.regs ∧ x.regs ≤ 3 ∧ 0 ≤ x.temps ∧ x.temps ≤ 1000000) (hy : 0 ≤ y.regs ∧ y.regs ≤ 3 ∧ 0 ≤ y.temps ∧ y.temps ≤ 1000000) (p : Option Addr) (m q : Nat) (b of c : Nat) (ha : atH h b of (nrc x)) (hd : atH h b (of + 4) (nrc y)) :
    Does Tryd.prog w0 62 [.agg ⟨[.int .u8 5, .int .u8 o, .int .u8 0, .int .i32 0, .int .i64 0, .slice p m q]⟩, .slice (some ⟨b, of, none⟩) 2 c] h L (Is (.agg ⟨nrc (jn 5 o 0 0 0 [x, y])⟩) h L) := by
  obtain ⟨s, r, u⟩ := x
  obtain ⟨s', r', u'⟩ := y
  simp only at hx hy
  refine Does.is (Does.of_V (cfg w0 62 Tryd.f62 132 (RIs (.agg ⟨nrc _⟩) h L) Tryd.func62) rfl rfl rfl rfl rfl rfl ?_); (repeat (first | refine V.stepY rfl ?_ | refine V.loadY rfl rfl rfl rfl rfl rfl ?_ | refine V.store rfl rfl rfl rfl rfl rfl rfl ?_ | refine V.condT rfl ?_ | refine V.condF rfl ?_ | refine V.skip rfl rfl ?_ | refine V.skipU rfl rfl rfl ?_ | refine V.pickT rfl rfl rfl rfl rfl ?_ | refine V.pickF rfl rfl rfl rfl rfl ?_ | refine V.step rfl ?_ | refine V.load rfl rfl rfl rfl rfl rfl ?_)); refine V.box rfl rfl rfl rfl rfl rfl fun be => ?_; refine V.alloc rfl rfl rfl rfl rfl rfl fun bx => ?_; (repeat (first | refine V.stepY rfl ?_ | refine V.loadY rfl rfl rfl rfl rfl rfl ?_ | refine V.store rfl rfl rfl rfl rfl rfl rfl ?_ | refine V.condT rfl ?_ | refine V.condF rfl ?_ | refine V.skip rfl rfl ?_ | refine V.skipU rfl rfl rfl ?_ | refine V.pickT rfl rfl rfl rfl rfl ?_ | refine V.pickF rfl rfl rfl rfl rfl ?_ | refine V.step rfl ?_ | refine V.load rfl rfl rfl rfl rfl rfl ?_))
  refine V.draw 9 [6, 7, 0, 1, 2, 3, 4, 5, 8] (fun i => if i = 8 then [6] else []) (fun _ _ _ _ => False) (by kernel_rfl) (by kernel_rfl) ?_
  refine WE.alloc rfl rfl rfl rfl rfl rfl rfl rfl fun b7 => ?_
  refine WE.alloc rfl rfl rfl rfl rfl rfl rfl rfl fun b8 => ?_
  (repeat (first | refine WE.step rfl ?_ | refine WE.load rfl rfl rfl rfl rfl rfl rfl ?_)); refine WE.index rfl rfl rfl rfl rfl rfl rfl (by decide) (by decide) ?_; refine WE.loadHA rfl rfl rfl rfl rfl rfl ha rfl rfl ?_; (repeat (first | refine WE.step rfl ?_ | refine WE.load rfl rfl rfl rfl rfl rfl rfl ?_)); refine WE.index rfl rfl rfl rfl rfl rfl rfl (by decide) (by decide) ?_; refine WE.loadHA rfl rfl rfl rfl rfl rfl hd rfl rfl ?_
  refine WE.store rfl rfl rfl rfl rfl rfl rfl rfl rfl rfl rfl ?_
  refine WE.nilC [_, _] (_ :: _ :: _ :: _ :: _) rfl rfl ?_
  (repeat (first | refine V.stepY rfl ?_ | refine V.loadY rfl rfl rfl rfl rfl rfl ?_ | refine V.store rfl rfl rfl rfl rfl rfl rfl ?_ | refine V.condT rfl ?_ | refine V.condF rfl ?_ | refine V.skip rfl rfl ?_ | refine V.skipU rfl rfl rfl ?_ | refine V.pickT rfl rfl rfl rfl rfl ?_ | refine V.pickF rfl rfl rfl rfl rfl ?_ | refine V.step rfl ?_ | refine V.load rfl rfl rfl rfl rfl rfl ?_))
  refine V.draw 26 [25, 0, 1, 2, 3, 4, 5, 6, 7, 8, 9, 10, 11, 12, 13, 14, 15, 16, 18, 19, 20, 21, 22, 17, 23, 24] (fun i => if i = 17 then [16] else if i = 23 then [22] else []) (YT (max r r') (max u u')) (by kernel_rfl) (by kernel_rfl) ?_
  refine WE.alloc rfl rfl rfl rfl rfl rfl rfl rfl fun b9 => ?_
  (repeat (first | refine WE.step rfl ?_ | refine WE.load rfl rfl rfl rfl rfl rfl rfl ?_))
  refine WE.index rfl rfl rfl rfl rfl rfl rfl (by omega) (by omega) ?_
  refine WE.loadH rfl rfl rfl rfl rfl rfl (quiet_at (o := o) hq (by omega) (by omega)) rfl ?_
  (repeat (first | refine WE.step rfl ?_ | refine WE.load rfl rfl rfl rfl rfl rfl rfl ?_))
  refine WE.lit rfl rfl rfl rfl rfl rfl rfl rfl fun c1 => ?_
  (repeat (first | refine WE.step rfl ?_ | refine WE.load rfl rfl rfl rfl rfl rfl rfl ?_))
  refine WE.lit rfl rfl rfl rfl rfl rfl rfl rfl fun c2 => ?_
  refine WE.call rfl rfl rfl rfl rfl rfl rfl (fun L => (top_does w0 _ L r r' c1 (fun i v hv => GH.add_at h c1 0 _ hv) _).mono ?_) (fun v h2' y1 y2 y3 => ?_)
  · rintro v h' L' ⟨rfl, rfl, rfl⟩; exact ⟨rfl, GH.le_refl _, rfl⟩
  have y3 : v = .int .i64 (max r r') := y3
  subst y3
  refine WE.call rfl rfl rfl rfl rfl rfl rfl (fun L => (top_does w0 _ L u u' c2 (fun i v hv => GH.add_at h2' c2 0 _ hv) _).mono ?_) (fun v h3' z1 z2 z3 => ?_)
  · rintro v h' L' ⟨rfl, rfl, rfl⟩; exact ⟨rfl, GH.le_refl _, rfl⟩
  have z3 : v = .int .i64 (max u u') := z3
  subst z3
  (repeat (first | refine WE.step rfl ?_ | refine WE.load rfl rfl rfl rfl rfl rfl rfl ?_))
  refine WE.nilC [_] (_ :: _ :: _ :: _ :: _ :: _) rfl rfl ?_
  (repeat (first | refine V.stepY rfl ?_ | refine V.loadY rfl rfl rfl rfl rfl rfl ?_ | refine V.store rfl rfl rfl rfl rfl rfl rfl ?_ | refine V.condT rfl ?_ | refine V.condF rfl ?_ | refine V.skip rfl rfl ?_ | refine V.skipU rfl rfl rfl ?_ | refine V.pickT rfl rfl rfl rfl rfl ?_ | refine V.pickF rfl rfl rfl rfl rfl ?_ | refine V.step rfl ?_ | refine V.load rfl rfl rfl rfl rfl rfl ?_))
  have hsq : (decide (o ≥ 6) : Bool) = quietB o := by unfold quietB; rw [Bool.eq_iff_iff]; simp; omega
  have hle : h.le h3' := GH.le_trans y2 z2
  clear y1 z1
  refine V.cond rfl (fun hc => ?_) (fun hc => ?_)
  · (repeat (first | refine V.stepY rfl ?_ | refine V.loadY rfl rfl rfl rfl rfl rfl ?_ | refine V.store rfl rfl rfl rfl rfl rfl rfl ?_ | refine V.condT rfl ?_ | refine V.condF rfl ?_ | refine V.skip rfl rfl ?_ | refine V.skipU rfl rfl rfl ?_ | refine V.pickT rfl rfl rfl rfl rfl ?_ | refine V.pickF rfl rfl rfl rfl rfl ?_ | refine V.step rfl ?_ | refine V.load rfl rfl rfl rfl rfl rfl ?_)); refine retC0 rfl rfl rfl rfl rfl rfl rfl ⟨?_, hle, (by repeat (first | exact List.Sublist.refl _ | apply List.Sublist.cons))⟩
    have hc' : ¬ (o ≠ 20 ∧ o ≠ 21 ∧ r = r') := by rintro ⟨g1, g2, g3⟩; simp [g1, g2, g3] at hc
    have hc2 : ¬ (o ≠ 20 ∧ o ≠ 21 ∧ r = 3 ∧ r' = 3) := by rintro ⟨g1, g2, g3, g4⟩; exact hc' ⟨g1, g2, by omega⟩
    refine agg_eq ?_ ?_ ?_
    · simp [jn, sureB, KE.kind, KE.oper, KE.to, KE.n, KE.v, KE.l, hsq]
    · simp only [jn]; rw [if_neg hc']
    · simp only [jn]; rw [if_neg hc2]
  · (repeat (first | refine V.stepY rfl ?_ | refine V.loadY rfl rfl rfl rfl rfl rfl ?_ | refine V.store rfl rfl rfl rfl rfl rfl rfl ?_ | refine V.condT rfl ?_ | refine V.condF rfl ?_ | refine V.skip rfl rfl ?_ | refine V.skipU rfl rfl rfl ?_ | refine V.pickT rfl rfl rfl rfl rfl ?_ | refine V.pickF rfl rfl rfl rfl rfl ?_ | refine V.step rfl ?_ | refine V.load rfl rfl rfl rfl rfl rfl ?_))
    have hc' : o ≠ 20 ∧ o ≠ 21 ∧ r = r' := by
      simp at hc
      exact ⟨hc.1.1, hc.1.2, hc.2⟩
    refine V.cond rfl (fun hd => ?_) (fun hd => ?_)
    · simp at hd
      (repeat (first | refine V.stepY rfl ?_ | refine V.loadY rfl rfl rfl rfl rfl rfl ?_ | refine V.store rfl rfl rfl rfl rfl rfl rfl ?_ | refine V.condT rfl ?_ | refine V.condF rfl ?_ | refine V.skip rfl rfl ?_ | refine V.skipU rfl rfl rfl ?_ | refine V.pickT rfl rfl rfl rfl rfl ?_ | refine V.pickF rfl rfl rfl rfl rfl ?_ | refine V.step rfl ?_ | refine V.load rfl rfl rfl rfl rfl rfl ?_)); refine retC0 rfl rfl rfl rfl rfl rfl rfl ⟨?_, hle, (by repeat (first | exact List.Sublist.refl _ | apply List.Sublist.cons))⟩
      have hc2 : ¬ (o ≠ 20 ∧ o ≠ 21 ∧ r = 3 ∧ r' = 3) := by rintro ⟨g1, g2, g3, g4⟩; omega
      refine agg_eq ?_ ?_ ?_
      · simp [jn, sureB, KE.kind, KE.oper, KE.to, KE.n, KE.v, KE.l, hsq]
      · simp only [jn]; rw [if_pos hc', wr64 _ (by omega)]; omega
      · simp only [jn]; rw [if_neg hc2]
    · simp at hd
      (repeat (first | refine V.stepY rfl ?_ | refine V.loadY rfl rfl rfl rfl rfl rfl ?_ | refine V.store rfl rfl rfl rfl rfl rfl rfl ?_ | refine V.condT rfl ?_ | refine V.condF rfl ?_ | refine V.skip rfl rfl ?_ | refine V.skipU rfl rfl rfl ?_ | refine V.pickT rfl rfl rfl rfl rfl ?_ | refine V.pickF rfl rfl rfl rfl rfl ?_ | refine V.step rfl ?_ | refine V.load rfl rfl rfl rfl rfl rfl ?_))
      refine V.val 103 rfl (int64_eq (wr64 (u + 1) (by omega))) ?_
      refine V.litP rfl rfl rfl rfl rfl rfl fun b2 h2'' hle2 hat2 => ?_; (repeat (first | refine V.stepY rfl ?_ | refine V.loadY rfl rfl rfl rfl rfl rfl ?_ | refine V.store rfl rfl rfl rfl rfl rfl rfl ?_ | refine V.condT rfl ?_ | refine V.condF rfl ?_ | refine V.skip rfl rfl ?_ | refine V.skipU rfl rfl rfl ?_ | refine V.pickT rfl rfl rfl rfl rfl ?_ | refine V.pickF rfl rfl rfl rfl rfl ?_ | refine V.step rfl ?_ | refine V.load rfl rfl rfl rfl rfl rfl ?_)); refine V.callIs rfl rfl rfl rfl rfl rfl (top_does w0 _ _ _ _ _ hat2 _) ?_; (repeat (first | refine V.stepY rfl ?_ | refine V.loadY rfl rfl rfl rfl rfl rfl ?_ | refine V.store rfl rfl rfl rfl rfl rfl rfl ?_ | refine V.condT rfl ?_ | refine V.condF rfl ?_ | refine V.skip rfl rfl ?_ | refine V.skipU rfl rfl rfl ?_ | refine V.pickT rfl rfl rfl rfl rfl ?_ | refine V.pickF rfl rfl rfl rfl rfl ?_ | refine V.step rfl ?_ | refine V.load rfl rfl rfl rfl rfl rfl ?_))
      refine retC0 rfl rfl rfl rfl rfl rfl rfl ⟨?_, GH.le_trans hle hle2, (by repeat (first | exact List.Sublist.refl _ | apply List.Sublist.cons))⟩
      have hc2 : (o ≠ 20 ∧ o ≠ 21 ∧ r = 3 ∧ r' = 3) := ⟨hc'.1, hc'.2.1, by omega, by omega⟩
      refine agg_eq ?_ ?_ ?_
      · simp [jn, sureB, KE.kind, KE.oper, KE.to, KE.n, KE.v, KE.l, hsq]
      · simp only [jn]; rw [if_pos hc']; omega
      · simp only [jn]; rw [if_pos hc2]
theorem joinA_does (w0 : World) (h : GH) (hq : atH h 0 0 quietL) (L : List Ent) (k o t n v : Int) (a : KE) (x : NR) (hf : fine ⟨k, o, t, n, v, [a]⟩ = true) (p : Option Addr) (m q : Nat) (b of c : Nat) (ha : atH h b of (nrc x)) :
    Does Tryd.prog w0 62 [.agg ⟨[.int .u8 k, .int .u8 o, .int .u8 t, .int .i32 n, .int .i64 v, .slice p m q]⟩, .slice (some ⟨b, of, none⟩) 1 c] h L (Is (.agg ⟨nrc (jn k o t n v [x])⟩) h L) := by
  rcases fine_cases hf with ⟨_, h9⟩ | ⟨_, _, _, h9⟩ | ⟨_, _, h1, h2, h3, h9⟩ | ⟨_, _, h1, h2, h3, h9⟩ | ⟨_, _, _, _, _, _, _, h9⟩ | ⟨_, _, h1, h2, h3, h9⟩ <;> simp at h9
  · obtain ⟨rfl, rfl, rfl, rfl, rfl, rfl⟩ := h9; exact join3_does w0 h L _ x p m q b of c ha
  · obtain ⟨rfl, rfl, rfl, rfl, rfl, rfl⟩ := h9; exact join4_does w0 h hq L _ h1 h2 x p m q b of c ha
  · obtain ⟨rfl, rfl, rfl, rfl, rfl, rfl⟩ := h9; exact join6_does w0 h L _ h1 h2 x p m q b of c ha
theorem joinB_does (w0 : World) (h : GH) (hq : atH h 0 0 quietL) (L : List Ent) (k o t n v : Int) (a d : KE) (x y : NR) (hx : 0 ≤ x.regs ∧ x.regs ≤ 3 ∧ 0 ≤ x.temps ∧ x.temps ≤ 1000000) (hy : 0 ≤ y.regs ∧ y.regs ≤ 3 ∧ 0 ≤ y.temps ∧ y.temps ≤ 1000000)
    (hf : fine ⟨k, o, t, n, v, [a, d]⟩ = true) (p : Option Addr) (m q : Nat) (b of c : Nat) (ha : atH h b of (nrc x)) (hd : atH h b (of + 4) (nrc y)) :
    Does Tryd.prog w0 62 [.agg ⟨[.int .u8 k, .int .u8 o, .int .u8 t, .int .i32 n, .int .i64 v, .slice p m q]⟩, .slice (some ⟨b, of, none⟩) 2 c] h L (Is (.agg ⟨nrc (jn k o t n v [x, y])⟩) h L) := by
  rcases fine_cases hf with ⟨_, h9⟩ | ⟨_, _, _, h9⟩ | ⟨_, _, h1, h2, h3, h9⟩ | ⟨_, _, h1, h2, h3, h9⟩ | ⟨_, _, _, h1, h2, _, _, h9⟩ | ⟨_, _, h1, h2, h3, h9⟩ <;> simp at h9
  obtain ⟨rfl, rfl, rfl, rfl, rfl, rfl, rfl⟩ := h9; exact join5_does w0 h hq L _ h1 h2 x y hx hy p m q b of c ha hd
theorem joinZ_does (w0 : World) (h : GH) (L : List Ent) (k o t n v : Int) (hf : fine ⟨k, o, t, n, v, []⟩ = true) (a' : Option Addr) (c1 : Nat) (a : Option Addr) (c : Nat) :
    Does Tryd.prog w0 62 [.agg ⟨[.int .u8 k, .int .u8 o, .int .u8 t, .int .i32 n, .int .i64 v, .slice a' 0 c1]⟩, .slice a 0 c] h L (Is (.agg ⟨nrc (jn k o t n v [])⟩) h L) := by
  have := join0_does w0 h L k o t n v a' c1 a c
  have hs : jn k o t n v [] = ⟨true, 1, 0⟩ := by
    rcases fine_cases hf with ⟨_, h9⟩ | ⟨_, _, _, h9⟩ | ⟨_, _, h1, h2, h3, h9⟩ | ⟨_, _, h1, h2, h3, h9⟩ | ⟨_, _, _, h1, h2, _, _, h9⟩ | ⟨_, _, h1, h2, h3, h9⟩ <;> simp at h9
    · obtain ⟨rfl, rfl, rfl, _⟩ := h9; simp [jn, sureB, KE.kind, KE.oper, KE.to, KE.n, KE.v, KE.l]
    · obtain ⟨rfl, rfl, rfl, _⟩ := h9; simp [jn, sureB, KE.kind, KE.oper, KE.to, KE.n, KE.v, KE.l]
  rw [hs]; exact this
end Go.Proofs.YtgmeahcclogfmaaDoor.S22
/-!
  Chapter 22: the walk of measure.
-/
namespace Go.Proofs.YtgmeahcclogfmaaDoor.S22
open Go Go.Tp
set_option linter.unusedVariables false
set_option linter.unusedSimpArgs false
set_option maxRecDepth 100000
set_option maxHeartbeats 4000000
def RL (Q : Value → GH → List Ent → Prop) : Value → GH → List Ent → Prop := fun v h' L' => ∃ L'', L''.Sublist L' ∧ Q v h' L''
def zeros : List Value := [.bool false, .bool false, .int .i64 0, .int .i64 0]
def walkR (e : KE) (room deep : Int) (rb : Nat) (h : GH) (L : List Ent) : Value → GH → List Ent → Prop := fun v h' L' => h.le h' ∧ ∃ room' : Int, L' = ⟨rb, 0, [.int .i64 room'], none⟩ :: L ∧
  if fits e room (33 - deep) then v = .agg ⟨nrc (ne e)⟩ ∧ room' = room - sz e else v = .agg ⟨zeros⟩
def WH (h : GH) (rb wb : Nat) : Prop := atH h 0 0 quietL ∧ h wb 0 = some (.func (.func 60) #[] #[.pointer (some ⟨rb, 0, none⟩), .pointer (some ⟨wb, 0, none⟩)])
theorem WH.mono {h h' : GH} {rb wb : Nat} (x : WH h rb wb) (hl : h.le h') : WH h' rb wb := ⟨x.1.mono hl, hl _ _ _ x.2⟩
theorem fitsZ {k o t n v : Int} {room deep : Int} (hs : shapeB ⟨k, o, t, n, v, []⟩ = true) (h1 : 1 ≤ room) (h2 : 1 ≤ deep) : fits ⟨k, o, t, n, v, []⟩ room deep := by
  simp only [fits, fine, finel, hs, sz, szl, ht, htl, Bool.true_and]
  exact ⟨trivial, by omega, by omega⟩
theorem walk_no {e : KE} {room deep : Int} {rb : Nat} {h h' : GH} {L : List Ent} {room' : Int} (hl : h.le h') (hf : ¬ fits e room (33 - deep)) : walkR e room deep rb h L (.agg ⟨zeros⟩) h' (⟨rb, 0, [.int .i64 room'], none⟩ :: L) :=
  ⟨hl, room', rfl, by rw [if_neg hf]⟩
theorem walk_yes {e : KE} {room deep : Int} {rb : Nat} {h h' : GH} {L : List Ent} {room' : Int} (hl : h.le h') (hf : fits e room (33 - deep)) (hr : room' = room - sz e) : walkR e room deep rb h L (.agg ⟨nrc (ne e)⟩) h' (⟨rb, 0, [.int .i64 room'], none⟩ :: L) :=
  ⟨hl, room', rfl, by rw [if_pos hf]; exact ⟨rfl, hr⟩⟩
theorem at2 {h : GH} {b o : Nat} {x y : NR} (h6 : atH h b o (nrc x ++ nrc y)) : atH h b o (nrc x) ∧ atH h b (o + 4) (nrc y) := by
  refine ⟨fun i v hv => h6 i v ?_, fun i v hv => ?_⟩
  · have hi : i < (nrc x).length := by
      rcases Nat.lt_or_ge i (nrc x).length with g | g
      · exact g
      · rw [List.getElem?_eq_none g] at hv; cases hv
    rw [List.getElem?_append_left hi]; exact hv
  · have := h6 (4 + i) v (by
      rw [List.getElem?_append_right (show (nrc x).length ≤ 4 + i from Nat.le_add_right 4 i)]
      rw [show 4 + i - (nrc x).length = i from Nat.add_sub_cancel_left 4 i]; exact hv)
    rwa [← Nat.add_assoc] at this
theorem walk_does (w0 : World) (rb wb : Nat) : ∀ (N : Nat) (e : KE) (cs : List Value) (h : GH) (L : List Ent) (room deep : Int), sz e ≤ N → RK h e cs → WH h rb wb → 0 ≤ room → room ≤ 256 → 1 ≤ deep → deep ≤ 33 →
    Does Tryd.prog w0 60 [.agg ⟨cs⟩, .int .i64 deep, .pointer (some ⟨rb, 0, none⟩), .pointer (some ⟨wb, 0, none⟩)] h (⟨rb, 0, [.int .i64 room], none⟩ :: L) (walkR e room deep rb h L)
  | 0, e, cs, h, L, room, deep, hn, _, _, _, _, _, _ => by have := sz_pos e; omega
  | N + 1, e, cs, h, L, room, deep, hn, hr, hw, r0, r1, d0, d1 => by
    have hr' := hr
    have hw1 : IntKind.i64.wrap (room - 1) = room - 1 := wr64 _ (by omega)
    have hw2 : IntKind.i64.wrap (deep + 1) = deep + 1 := wr64 _ (by omega)
    by_cases hs : shapeB e = true
    · rcases shape_cases hs with ⟨k, o, t, n, v, rfl⟩ | ⟨k, o, t, n, v, a, rfl⟩ | ⟨k, o, t, n, v, a, b, rfl⟩
      · obtain ⟨a', cap, rfl⟩ := RK_p0 hr
        refine Does.resL (Does.of_V (cfg w0 60 Tryd.f60 49 (RL (walkR _ room deep rb h L)) Tryd.func60) rfl rfl rfl rfl rfl rfl ?_); (repeat (first | refine V.step rfl ?_ | refine V.load rfl rfl rfl rfl rfl rfl ?_ | refine V.store rfl rfl rfl rfl rfl rfl rfl ?_ | refine V.condT rfl ?_ | refine V.condF rfl ?_)); refine V.box rfl rfl rfl rfl rfl rfl fun be => ?_; refine V.alloc rfl rfl rfl rfl rfl rfl fun bx => ?_; (repeat (first | refine V.step rfl ?_ | refine V.load rfl rfl rfl rfl rfl rfl ?_ | refine V.store rfl rfl rfl rfl rfl rfl rfl ?_ | refine V.condT rfl ?_ | refine V.condF rfl ?_))
        refine V.split 19 rfl (fun hc => (by simp at hc; (repeat (first | refine V.stepY rfl ?_ | refine V.loadY rfl rfl rfl rfl rfl rfl ?_ | refine V.store rfl rfl rfl rfl rfl rfl rfl ?_ | refine V.condT rfl ?_ | refine V.condF rfl ?_ | refine V.skip rfl rfl ?_ | refine V.skipU rfl rfl rfl ?_ | refine V.pickT rfl rfl rfl rfl rfl ?_ | refine V.pickF rfl rfl rfl rfl rfl ?_ | refine V.step rfl ?_ | refine V.load rfl rfl rfl rfl rfl rfl ?_)); refine retC0 rfl rfl rfl rfl rfl rfl rfl ⟨⟨rb, 0, [.int .i64 _], none⟩ :: L, (by repeat (first | exact List.Sublist.refl _ | apply List.Sublist.cons_cons | apply List.Sublist.cons)), ?_⟩; exact walk_no (GH.le_refl _) (fits_not (by omega)))) (fun hc => ?_); (simp at hc); (repeat (first | refine V.stepY rfl ?_ | refine V.loadY rfl rfl rfl rfl rfl rfl ?_ | refine V.store rfl rfl rfl rfl rfl rfl rfl ?_ | refine V.condT rfl ?_ | refine V.condF rfl ?_ | refine V.skip rfl rfl ?_ | refine V.skipU rfl rfl rfl ?_ | refine V.pickT rfl rfl rfl rfl rfl ?_ | refine V.pickF rfl rfl rfl rfl rfl ?_ | refine V.step rfl ?_ | refine V.load rfl rfl rfl rfl rfl rfl ?_)); refine V.callIs rfl rfl rfl rfl rfl rfl (plain_does w0 h _ _ _ hr') ?_; (repeat (first | refine V.stepY rfl ?_ | refine V.loadY rfl rfl rfl rfl rfl rfl ?_ | refine V.store rfl rfl rfl rfl rfl rfl rfl ?_ | refine V.condT rfl ?_ | refine V.condF rfl ?_ | refine V.skip rfl rfl ?_ | refine V.skipU rfl rfl rfl ?_ | refine V.pickT rfl rfl rfl rfl rfl ?_ | refine V.pickF rfl rfl rfl rfl rfl ?_ | refine V.step rfl ?_ | refine V.load rfl rfl rfl rfl rfl rfl ?_))
        have hff := fitsZ (room := room) (deep := 33 - deep) hs (by omega) (by omega)
        refine V.cond rfl (fun hd => (by simp [hs] at hd)) (fun hd => ?_)
        (repeat (first | refine V.stepY rfl ?_ | refine V.loadY rfl rfl rfl rfl rfl rfl ?_ | refine V.store rfl rfl rfl rfl rfl rfl rfl ?_ | refine V.condT rfl ?_ | refine V.condF rfl ?_ | refine V.skip rfl rfl ?_ | refine V.skipU rfl rfl rfl ?_ | refine V.pickT rfl rfl rfl rfl rfl ?_ | refine V.pickF rfl rfl rfl rfl rfl ?_ | refine V.step rfl ?_ | refine V.load rfl rfl rfl rfl rfl rfl ?_)); refine V.loop1 ?_; (repeat (first | refine V.stepY rfl ?_ | refine V.loadY rfl rfl rfl rfl rfl rfl ?_ | refine V.store rfl rfl rfl rfl rfl rfl rfl ?_ | refine V.condT rfl ?_ | refine V.condF rfl ?_ | refine V.skip rfl rfl ?_ | refine V.skipU rfl rfl rfl ?_ | refine V.pickT rfl rfl rfl rfl rfl ?_ | refine V.pickF rfl rfl rfl rfl rfl ?_ | refine V.step rfl ?_ | refine V.load rfl rfl rfl rfl rfl rfl ?_))
        refine V.callIs rfl rfl rfl rfl rfl rfl (joinZ_does w0 h _ k o t n v hff.1 _ _ _ _) ?_; (repeat (first | refine V.stepY rfl ?_ | refine V.loadY rfl rfl rfl rfl rfl rfl ?_ | refine V.store rfl rfl rfl rfl rfl rfl rfl ?_ | refine V.condT rfl ?_ | refine V.condF rfl ?_ | refine V.skip rfl rfl ?_ | refine V.skipU rfl rfl rfl ?_ | refine V.pickT rfl rfl rfl rfl rfl ?_ | refine V.pickF rfl rfl rfl rfl rfl ?_ | refine V.step rfl ?_ | refine V.load rfl rfl rfl rfl rfl rfl ?_))
        refine retC0 rfl rfl rfl rfl rfl rfl rfl ⟨⟨rb, 0, [.int .i64 _], none⟩ :: L, (by repeat (first | exact List.Sublist.refl _ | apply List.Sublist.cons_cons | apply List.Sublist.cons)), ?_⟩; exact walk_yes (GH.le_refl _) hff (by simp [sz, szl, hw1])
      · obtain ⟨bb, off, cap, ca, rfl, g1, g2, g3⟩ := RK_p1 hr
        obtain ⟨ak, ao, at', an, av, aa, am, ac, rfl⟩ := RK_c g2
        simp only [sz, szl] at hn
        refine Does.resL (Does.of_V (cfg w0 60 Tryd.f60 49 (RL (walkR _ room deep rb h L)) Tryd.func60) rfl rfl rfl rfl rfl rfl ?_); (repeat (first | refine V.step rfl ?_ | refine V.load rfl rfl rfl rfl rfl rfl ?_ | refine V.store rfl rfl rfl rfl rfl rfl rfl ?_ | refine V.condT rfl ?_ | refine V.condF rfl ?_)); refine V.box rfl rfl rfl rfl rfl rfl fun be => ?_; refine V.alloc rfl rfl rfl rfl rfl rfl fun bx => ?_; (repeat (first | refine V.step rfl ?_ | refine V.load rfl rfl rfl rfl rfl rfl ?_ | refine V.store rfl rfl rfl rfl rfl rfl rfl ?_ | refine V.condT rfl ?_ | refine V.condF rfl ?_))
        refine V.split 19 rfl (fun hc => (by simp at hc; (repeat (first | refine V.stepY rfl ?_ | refine V.loadY rfl rfl rfl rfl rfl rfl ?_ | refine V.store rfl rfl rfl rfl rfl rfl rfl ?_ | refine V.condT rfl ?_ | refine V.condF rfl ?_ | refine V.skip rfl rfl ?_ | refine V.skipU rfl rfl rfl ?_ | refine V.pickT rfl rfl rfl rfl rfl ?_ | refine V.pickF rfl rfl rfl rfl rfl ?_ | refine V.step rfl ?_ | refine V.load rfl rfl rfl rfl rfl rfl ?_)); refine retC0 rfl rfl rfl rfl rfl rfl rfl ⟨⟨rb, 0, [.int .i64 _], none⟩ :: L, (by repeat (first | exact List.Sublist.refl _ | apply List.Sublist.cons_cons | apply List.Sublist.cons)), ?_⟩; exact walk_no (GH.le_refl _) (fits_not (by omega)))) (fun hc => ?_); (simp at hc); (repeat (first | refine V.stepY rfl ?_ | refine V.loadY rfl rfl rfl rfl rfl rfl ?_ | refine V.store rfl rfl rfl rfl rfl rfl rfl ?_ | refine V.condT rfl ?_ | refine V.condF rfl ?_ | refine V.skip rfl rfl ?_ | refine V.skipU rfl rfl rfl ?_ | refine V.pickT rfl rfl rfl rfl rfl ?_ | refine V.pickF rfl rfl rfl rfl rfl ?_ | refine V.step rfl ?_ | refine V.load rfl rfl rfl rfl rfl rfl ?_)); refine V.callIs rfl rfl rfl rfl rfl rfl (plain_does w0 h _ _ _ hr') ?_; (repeat (first | refine V.stepY rfl ?_ | refine V.loadY rfl rfl rfl rfl rfl rfl ?_ | refine V.store rfl rfl rfl rfl rfl rfl rfl ?_ | refine V.condT rfl ?_ | refine V.condF rfl ?_ | refine V.skip rfl rfl ?_ | refine V.skipU rfl rfl rfl ?_ | refine V.pickT rfl rfl rfl rfl rfl ?_ | refine V.pickF rfl rfl rfl rfl rfl ?_ | refine V.step rfl ?_ | refine V.load rfl rfl rfl rfl rfl rfl ?_))
        have hf1 : fits ⟨k, o, t, n, v, [a]⟩ room (33 - deep) ↔ fits a (IntKind.i64.wrap (room - 1)) (33 - IntKind.i64.wrap (deep + 1)) := by
          rw [fits1 hs, hw1, hw2, show (33 : Int) - (deep + 1) = 33 - deep - 1 by omega]
        refine V.cond rfl (fun hd => (by simp [hs] at hd)) (fun hd => ?_)
        refine V.empty ?_
        (repeat (first | refine V.stepY rfl ?_ | refine V.loadY rfl rfl rfl rfl rfl rfl ?_ | refine V.store rfl rfl rfl rfl rfl rfl rfl ?_ | refine V.condT rfl ?_ | refine V.condF rfl ?_ | refine V.skip rfl rfl ?_ | refine V.skipU rfl rfl rfl ?_ | refine V.pickT rfl rfl rfl rfl rfl ?_ | refine V.pickF rfl rfl rfl rfl rfl ?_ | refine V.step rfl ?_ | refine V.load rfl rfl rfl rfl rfl rfl ?_)); refine V.loop1 ?_; (repeat (first | refine V.stepY rfl ?_ | refine V.loadY rfl rfl rfl rfl rfl rfl ?_ | refine V.store rfl rfl rfl rfl rfl rfl rfl ?_ | refine V.condT rfl ?_ | refine V.condF rfl ?_ | refine V.skip rfl rfl ?_ | refine V.skipU rfl rfl rfl ?_ | refine V.pickT rfl rfl rfl rfl rfl ?_ | refine V.pickF rfl rfl rfl rfl rfl ?_ | refine V.step rfl ?_ | refine V.load rfl rfl rfl rfl rfl rfl ?_))
        refine V.index rfl rfl rfl rfl rfl rfl (by decide) (by decide) ?_; refine V.loadHA rfl rfl rfl rfl rfl g1 g3 rfl ?_; refine V.alloc rfl rfl rfl rfl rfl rfl fun b9 => ?_; (repeat (first | refine V.stepY rfl ?_ | refine V.loadY rfl rfl rfl rfl rfl rfl ?_ | refine V.store rfl rfl rfl rfl rfl rfl rfl ?_ | refine V.condT rfl ?_ | refine V.condF rfl ?_ | refine V.skip rfl rfl ?_ | refine V.skipU rfl rfl rfl ?_ | refine V.pickT rfl rfl rfl rfl rfl ?_ | refine V.pickF rfl rfl rfl rfl rfl ?_ | refine V.step rfl ?_ | refine V.load rfl rfl rfl rfl rfl rfl ?_))
        refine V.loadH rfl rfl rfl rfl rfl hw.2 rfl ?_; (repeat (first | refine V.stepY rfl ?_ | refine V.loadY rfl rfl rfl rfl rfl rfl ?_ | refine V.store rfl rfl rfl rfl rfl rfl rfl ?_ | refine V.condT rfl ?_ | refine V.condF rfl ?_ | refine V.skip rfl rfl ?_ | refine V.skipU rfl rfl rfl ?_ | refine V.pickT rfl rfl rfl rfl rfl ?_ | refine V.pickF rfl rfl rfl rfl rfl ?_ | refine V.step rfl ?_ | refine V.load rfl rfl rfl rfl rfl rfl ?_))
        refine V.perm (L' := ⟨rb, 0, [.int .i64 (IntKind.i64.wrap (room - 1))], none⟩ :: _ :: _ :: _ :: _ :: L) (List.perm_middle (l₁ := [_, _, _, _]) (l₂ := L)) ?_
        refine V.call rfl rfl rfl rfl rfl rfl (walk_does w0 rb wb N a _ h _ _ _ (by omega) g2 hw (by omega) (by omega) (by omega) (by omega)) ?_
        rintro v1 h1 L1 ⟨hle1, room1, rfl, hv1⟩
        by_cases hfa : fits a (IntKind.i64.wrap (room - 1)) (33 - IntKind.i64.wrap (deep + 1))
        · rw [if_pos hfa] at hv1
          obtain ⟨rfl, hro⟩ := hv1
          refine V.alloc rfl rfl rfl rfl rfl rfl fun b10 => ?_; (repeat (first | refine V.stepY rfl ?_ | refine V.loadY rfl rfl rfl rfl rfl rfl ?_ | refine V.store rfl rfl rfl rfl rfl rfl rfl ?_ | refine V.condT rfl ?_ | refine V.condF rfl ?_ | refine V.skip rfl rfl ?_ | refine V.skipU rfl rfl rfl ?_ | refine V.pickT rfl rfl rfl rfl rfl ?_ | refine V.pickF rfl rfl rfl rfl rfl ?_ | refine V.step rfl ?_ | refine V.load rfl rfl rfl rfl rfl rfl ?_))
          (refine V.litP rfl rfl rfl rfl rfl rfl fun c1 h2 hle2 hat2 => ?_; (repeat (first | refine V.stepY rfl ?_ | refine V.loadY rfl rfl rfl rfl rfl rfl ?_ | refine V.store rfl rfl rfl rfl rfl rfl rfl ?_ | refine V.condT rfl ?_ | refine V.condF rfl ?_ | refine V.skip rfl rfl ?_ | refine V.skipU rfl rfl rfl ?_ | refine V.pickT rfl rfl rfl rfl rfl ?_ | refine V.pickF rfl rfl rfl rfl rfl ?_ | refine V.step rfl ?_ | refine V.load rfl rfl rfl rfl rfl rfl ?_)); refine V.perm (L' := ⟨0, 0, [], none⟩ :: _ :: _ :: _ :: _ :: _ :: L) (List.perm_middle (l₁ := [_, _, _]) (l₂ := _ :: _ :: L)) ?_; have ha2 : Sl h2 4 (.slice (some ⟨c1, 0, none⟩) 1 1) (nrc (ne a)) := Sl.of (Nat.le_refl _) rfl hat2; refine V.appendN 1 rfl rfl rfl rfl rfl rfl rfl rfl rfl rfl rfl rfl (Sl.nil h2 4) (Tl.nil 4) ha2 (by simp only [nrc, List.length_cons, List.length_nil]; omega) rfl (by decide) ?_; intro jb jo cc h3 x2 hle3 hcc hat3 tl2; (repeat (first | refine V.stepY rfl ?_ | refine V.loadY rfl rfl rfl rfl rfl rfl ?_ | refine V.store rfl rfl rfl rfl rfl rfl rfl ?_ | refine V.condT rfl ?_ | refine V.condF rfl ?_ | refine V.skip rfl rfl ?_ | refine V.skipU rfl rfl rfl ?_ | refine V.pickT rfl rfl rfl rfl rfl ?_ | refine V.pickF rfl rfl rfl rfl rfl ?_ | refine V.step rfl ?_ | refine V.load rfl rfl rfl rfl rfl rfl ?_)))
          have hff := hf1.2 hfa
          refine V.again ?_; (repeat (first | refine V.stepY rfl ?_ | refine V.loadY rfl rfl rfl rfl rfl rfl ?_ | refine V.store rfl rfl rfl rfl rfl rfl rfl ?_ | refine V.condT rfl ?_ | refine V.condF rfl ?_ | refine V.skip rfl rfl ?_ | refine V.skipU rfl rfl rfl ?_ | refine V.pickT rfl rfl rfl rfl rfl ?_ | refine V.pickF rfl rfl rfl rfl rfl ?_ | refine V.step rfl ?_ | refine V.load rfl rfl rfl rfl rfl rfl ?_))
          have hlt := GH.le_trans hle1 (GH.le_trans hle2 hle3)
          have key : walkR ⟨k, o, t, n, v, [a]⟩ room deep rb h L (.agg ⟨nrc (jn k o t n v [ne a])⟩) h3 (⟨rb, 0, [.int .i64 room1], none⟩ :: L) := by
            rw [show jn k o t n v [ne a] = ne ⟨k, o, t, n, v, [a]⟩ by simp only [ne, nel]]
            exact walk_yes hlt hff (by simp only [sz, szl]; omega)
          refine V.callIs rfl rfl rfl rfl rfl rfl (joinA_does w0 h3 (hw.1.mono hlt) _ k o t n v a (ne a) hff.1 (some ⟨bb, off, none⟩) 1 cap jb jo cc hat3) ?_; (repeat (first | refine V.stepY rfl ?_ | refine V.loadY rfl rfl rfl rfl rfl rfl ?_ | refine V.store rfl rfl rfl rfl rfl rfl rfl ?_ | refine V.condT rfl ?_ | refine V.condF rfl ?_ | refine V.skip rfl rfl ?_ | refine V.skipU rfl rfl rfl ?_ | refine V.pickT rfl rfl rfl rfl rfl ?_ | refine V.pickF rfl rfl rfl rfl rfl ?_ | refine V.step rfl ?_ | refine V.load rfl rfl rfl rfl rfl rfl ?_))
          refine retC0 rfl rfl rfl rfl rfl rfl rfl ⟨⟨rb, 0, [.int .i64 _], none⟩ :: L, (by repeat (first | exact List.Sublist.refl _ | apply List.Sublist.cons_cons | apply List.Sublist.cons)), ?_⟩; exact key
        · rw [if_neg hfa] at hv1
          subst hv1
          refine V.alloc rfl rfl rfl rfl rfl rfl fun b10 => ?_; (repeat (first | refine V.stepY rfl ?_ | refine V.loadY rfl rfl rfl rfl rfl rfl ?_ | refine V.store rfl rfl rfl rfl rfl rfl rfl ?_ | refine V.condT rfl ?_ | refine V.condF rfl ?_ | refine V.skip rfl rfl ?_ | refine V.skipU rfl rfl rfl ?_ | refine V.pickT rfl rfl rfl rfl rfl ?_ | refine V.pickF rfl rfl rfl rfl rfl ?_ | refine V.step rfl ?_ | refine V.load rfl rfl rfl rfl rfl rfl ?_))
          refine retC0 rfl rfl rfl rfl rfl rfl rfl ⟨⟨rb, 0, [.int .i64 _], none⟩ :: L, (by repeat (first | exact List.Sublist.refl _ | apply List.Sublist.cons_cons | apply List.Sublist.cons)), ?_⟩; exact walk_no hle1 (fun hh => hfa (hf1.1 hh))
      · obtain ⟨bb, off, cap, ca, cb, rfl, g1, g2, g3, g4, g5, g6⟩ := RK_p2 hr
        obtain ⟨ak, ao, at', an, av, aa, am, ac, rfl⟩ := RK_c g2
        obtain ⟨bk, bo, bt, bn, bv, ba, bm, bc, rfl⟩ := RK_c g5
        simp only [sz, szl] at hn
        refine Does.resL (Does.of_V (cfg w0 60 Tryd.f60 49 (RL (walkR _ room deep rb h L)) Tryd.func60) rfl rfl rfl rfl rfl rfl ?_); (repeat (first | refine V.step rfl ?_ | refine V.load rfl rfl rfl rfl rfl rfl ?_ | refine V.store rfl rfl rfl rfl rfl rfl rfl ?_ | refine V.condT rfl ?_ | refine V.condF rfl ?_)); refine V.box rfl rfl rfl rfl rfl rfl fun be => ?_; refine V.alloc rfl rfl rfl rfl rfl rfl fun bx => ?_; (repeat (first | refine V.step rfl ?_ | refine V.load rfl rfl rfl rfl rfl rfl ?_ | refine V.store rfl rfl rfl rfl rfl rfl rfl ?_ | refine V.condT rfl ?_ | refine V.condF rfl ?_))
        refine V.split 19 rfl (fun hc => (by simp at hc; (repeat (first | refine V.stepY rfl ?_ | refine V.loadY rfl rfl rfl rfl rfl rfl ?_ | refine V.store rfl rfl rfl rfl rfl rfl rfl ?_ | refine V.condT rfl ?_ | refine V.condF rfl ?_ | refine V.skip rfl rfl ?_ | refine V.skipU rfl rfl rfl ?_ | refine V.pickT rfl rfl rfl rfl rfl ?_ | refine V.pickF rfl rfl rfl rfl rfl ?_ | refine V.step rfl ?_ | refine V.load rfl rfl rfl rfl rfl rfl ?_)); refine retC0 rfl rfl rfl rfl rfl rfl rfl ⟨⟨rb, 0, [.int .i64 _], none⟩ :: L, (by repeat (first | exact List.Sublist.refl _ | apply List.Sublist.cons_cons | apply List.Sublist.cons)), ?_⟩; exact walk_no (GH.le_refl _) (fits_not (by omega)))) (fun hc => ?_); (simp at hc); (repeat (first | refine V.stepY rfl ?_ | refine V.loadY rfl rfl rfl rfl rfl rfl ?_ | refine V.store rfl rfl rfl rfl rfl rfl rfl ?_ | refine V.condT rfl ?_ | refine V.condF rfl ?_ | refine V.skip rfl rfl ?_ | refine V.skipU rfl rfl rfl ?_ | refine V.pickT rfl rfl rfl rfl rfl ?_ | refine V.pickF rfl rfl rfl rfl rfl ?_ | refine V.step rfl ?_ | refine V.load rfl rfl rfl rfl rfl rfl ?_)); refine V.callIs rfl rfl rfl rfl rfl rfl (plain_does w0 h _ _ _ hr') ?_; (repeat (first | refine V.stepY rfl ?_ | refine V.loadY rfl rfl rfl rfl rfl rfl ?_ | refine V.store rfl rfl rfl rfl rfl rfl rfl ?_ | refine V.condT rfl ?_ | refine V.condF rfl ?_ | refine V.skip rfl rfl ?_ | refine V.skipU rfl rfl rfl ?_ | refine V.pickT rfl rfl rfl rfl rfl ?_ | refine V.pickF rfl rfl rfl rfl rfl ?_ | refine V.step rfl ?_ | refine V.load rfl rfl rfl rfl rfl rfl ?_))
        have hf1 : fits ⟨k, o, t, n, v, [a, b]⟩ room (33 - deep) ↔ fits a (IntKind.i64.wrap (room - 1)) (33 - IntKind.i64.wrap (deep + 1)) ∧ fits b (IntKind.i64.wrap (room - 1) - sz a) (33 - IntKind.i64.wrap (deep + 1)) := by
          rw [fits2 hs, hw1, hw2, show (33 : Int) - (deep + 1) = 33 - deep - 1 by omega, show room - 1 - (sz a : Int) = room - (1 + sz a) by omega]
        refine V.cond rfl (fun hd => (by simp [hs] at hd)) (fun hd => ?_)
        refine V.empty ?_
        (repeat (first | refine V.stepY rfl ?_ | refine V.loadY rfl rfl rfl rfl rfl rfl ?_ | refine V.store rfl rfl rfl rfl rfl rfl rfl ?_ | refine V.condT rfl ?_ | refine V.condF rfl ?_ | refine V.skip rfl rfl ?_ | refine V.skipU rfl rfl rfl ?_ | refine V.pickT rfl rfl rfl rfl rfl ?_ | refine V.pickF rfl rfl rfl rfl rfl ?_ | refine V.step rfl ?_ | refine V.load rfl rfl rfl rfl rfl rfl ?_)); refine V.loop1 ?_; (repeat (first | refine V.stepY rfl ?_ | refine V.loadY rfl rfl rfl rfl rfl rfl ?_ | refine V.store rfl rfl rfl rfl rfl rfl rfl ?_ | refine V.condT rfl ?_ | refine V.condF rfl ?_ | refine V.skip rfl rfl ?_ | refine V.skipU rfl rfl rfl ?_ | refine V.pickT rfl rfl rfl rfl rfl ?_ | refine V.pickF rfl rfl rfl rfl rfl ?_ | refine V.step rfl ?_ | refine V.load rfl rfl rfl rfl rfl rfl ?_))
        refine V.index rfl rfl rfl rfl rfl rfl (by decide) (by decide) ?_; refine V.loadHA rfl rfl rfl rfl rfl g1 g3 rfl ?_; refine V.alloc rfl rfl rfl rfl rfl rfl fun b9 => ?_; (repeat (first | refine V.stepY rfl ?_ | refine V.loadY rfl rfl rfl rfl rfl rfl ?_ | refine V.store rfl rfl rfl rfl rfl rfl rfl ?_ | refine V.condT rfl ?_ | refine V.condF rfl ?_ | refine V.skip rfl rfl ?_ | refine V.skipU rfl rfl rfl ?_ | refine V.pickT rfl rfl rfl rfl rfl ?_ | refine V.pickF rfl rfl rfl rfl rfl ?_ | refine V.step rfl ?_ | refine V.load rfl rfl rfl rfl rfl rfl ?_))
        refine V.loadH rfl rfl rfl rfl rfl hw.2 rfl ?_; (repeat (first | refine V.stepY rfl ?_ | refine V.loadY rfl rfl rfl rfl rfl rfl ?_ | refine V.store rfl rfl rfl rfl rfl rfl rfl ?_ | refine V.condT rfl ?_ | refine V.condF rfl ?_ | refine V.skip rfl rfl ?_ | refine V.skipU rfl rfl rfl ?_ | refine V.pickT rfl rfl rfl rfl rfl ?_ | refine V.pickF rfl rfl rfl rfl rfl ?_ | refine V.step rfl ?_ | refine V.load rfl rfl rfl rfl rfl rfl ?_))
        refine V.perm (L' := ⟨rb, 0, [.int .i64 (IntKind.i64.wrap (room - 1))], none⟩ :: _ :: _ :: _ :: _ :: L) (List.perm_middle (l₁ := [_, _, _, _]) (l₂ := L)) ?_
        refine V.call rfl rfl rfl rfl rfl rfl (walk_does w0 rb wb N a _ h _ _ _ (by omega) g2 hw (by omega) (by omega) (by omega) (by omega)) ?_
        rintro v1 h1 L1 ⟨hle1, room1, rfl, hv1⟩
        by_cases hfa : fits a (IntKind.i64.wrap (room - 1)) (33 - IntKind.i64.wrap (deep + 1))
        · rw [if_pos hfa] at hv1
          obtain ⟨rfl, hro⟩ := hv1
          refine V.alloc rfl rfl rfl rfl rfl rfl fun b10 => ?_; (repeat (first | refine V.stepY rfl ?_ | refine V.loadY rfl rfl rfl rfl rfl rfl ?_ | refine V.store rfl rfl rfl rfl rfl rfl rfl ?_ | refine V.condT rfl ?_ | refine V.condF rfl ?_ | refine V.skip rfl rfl ?_ | refine V.skipU rfl rfl rfl ?_ | refine V.pickT rfl rfl rfl rfl rfl ?_ | refine V.pickF rfl rfl rfl rfl rfl ?_ | refine V.step rfl ?_ | refine V.load rfl rfl rfl rfl rfl rfl ?_))
          (refine V.litP rfl rfl rfl rfl rfl rfl fun c1 h2 hle2 hat2 => ?_; (repeat (first | refine V.stepY rfl ?_ | refine V.loadY rfl rfl rfl rfl rfl rfl ?_ | refine V.store rfl rfl rfl rfl rfl rfl rfl ?_ | refine V.condT rfl ?_ | refine V.condF rfl ?_ | refine V.skip rfl rfl ?_ | refine V.skipU rfl rfl rfl ?_ | refine V.pickT rfl rfl rfl rfl rfl ?_ | refine V.pickF rfl rfl rfl rfl rfl ?_ | refine V.step rfl ?_ | refine V.load rfl rfl rfl rfl rfl rfl ?_)); refine V.perm (L' := ⟨0, 0, [], none⟩ :: _ :: _ :: _ :: _ :: _ :: L) (List.perm_middle (l₁ := [_, _, _]) (l₂ := _ :: _ :: L)) ?_; have ha2 : Sl h2 4 (.slice (some ⟨c1, 0, none⟩) 1 1) (nrc (ne a)) := Sl.of (Nat.le_refl _) rfl hat2; refine V.appendN 1 rfl rfl rfl rfl rfl rfl rfl rfl rfl rfl rfl rfl (Sl.nil h2 4) (Tl.nil 4) ha2 (by simp only [nrc, List.length_cons, List.length_nil]; omega) rfl (by decide) ?_; intro jb jo cc h3 x2 hle3 hcc hat3 tl2; (repeat (first | refine V.stepY rfl ?_ | refine V.loadY rfl rfl rfl rfl rfl rfl ?_ | refine V.store rfl rfl rfl rfl rfl rfl rfl ?_ | refine V.condT rfl ?_ | refine V.condF rfl ?_ | refine V.skip rfl rfl ?_ | refine V.skipU rfl rfl rfl ?_ | refine V.pickT rfl rfl rfl rfl rfl ?_ | refine V.pickF rfl rfl rfl rfl rfl ?_ | refine V.step rfl ?_ | refine V.load rfl rfl rfl rfl rfl rfl ?_)))
          have hlt := GH.le_trans hle1 (GH.le_trans hle2 hle3)
          have hat3 : atH h3 jb jo (nrc (ne a)) := hat3
          have hfas := hfa.2.1
          refine V.again ?_; (repeat (first | refine V.stepY rfl ?_ | refine V.loadY rfl rfl rfl rfl rfl rfl ?_ | refine V.store rfl rfl rfl rfl rfl rfl rfl ?_ | refine V.condT rfl ?_ | refine V.condF rfl ?_ | refine V.skip rfl rfl ?_ | refine V.skipU rfl rfl rfl ?_ | refine V.pickT rfl rfl rfl rfl rfl ?_ | refine V.pickF rfl rfl rfl rfl rfl ?_ | refine V.step rfl ?_ | refine V.load rfl rfl rfl rfl rfl rfl ?_))
          refine V.index rfl rfl rfl rfl rfl rfl (by decide) (by decide) ?_; refine V.loadHA rfl rfl rfl rfl rfl (g4.mono hlt) g6 rfl ?_; refine V.alloc rfl rfl rfl rfl rfl rfl fun b9' => ?_; (repeat (first | refine V.stepY rfl ?_ | refine V.loadY rfl rfl rfl rfl rfl rfl ?_ | refine V.store rfl rfl rfl rfl rfl rfl rfl ?_ | refine V.condT rfl ?_ | refine V.condF rfl ?_ | refine V.skip rfl rfl ?_ | refine V.skipU rfl rfl rfl ?_ | refine V.pickT rfl rfl rfl rfl rfl ?_ | refine V.pickF rfl rfl rfl rfl rfl ?_ | refine V.step rfl ?_ | refine V.load rfl rfl rfl rfl rfl rfl ?_))
          refine V.loadH rfl rfl rfl rfl rfl (hlt _ _ _ hw.2) rfl ?_; (repeat (first | refine V.stepY rfl ?_ | refine V.loadY rfl rfl rfl rfl rfl rfl ?_ | refine V.store rfl rfl rfl rfl rfl rfl rfl ?_ | refine V.condT rfl ?_ | refine V.condF rfl ?_ | refine V.skip rfl rfl ?_ | refine V.skipU rfl rfl rfl ?_ | refine V.pickT rfl rfl rfl rfl rfl ?_ | refine V.pickF rfl rfl rfl rfl rfl ?_ | refine V.step rfl ?_ | refine V.load rfl rfl rfl rfl rfl rfl ?_))
          refine V.perm (L' := ⟨rb, 0, [.int .i64 room1], none⟩ :: _ :: _ :: _ :: _ :: _ :: _ :: L) (List.perm_middle (l₁ := [_, _, _]) (l₂ := _ :: _ :: _ :: L)) ?_
          refine V.call rfl rfl rfl rfl rfl rfl (walk_does w0 rb wb N b _ h3 _ _ _ (by omega) (RK.mono hlt g5) (hw.mono hlt) (by omega) (by omega) (by omega) (by omega)) ?_
          rintro v2 h4 L2 ⟨hle4, room2, rfl, hv2⟩
          by_cases hfb : fits b room1 (33 - IntKind.i64.wrap (deep + 1))
          · rw [if_pos hfb] at hv2
            obtain ⟨rfl, hro2⟩ := hv2
            refine V.alloc rfl rfl rfl rfl rfl rfl fun b10' => ?_; (repeat (first | refine V.stepY rfl ?_ | refine V.loadY rfl rfl rfl rfl rfl rfl ?_ | refine V.store rfl rfl rfl rfl rfl rfl rfl ?_ | refine V.condT rfl ?_ | refine V.condF rfl ?_ | refine V.skip rfl rfl ?_ | refine V.skipU rfl rfl rfl ?_ | refine V.pickT rfl rfl rfl rfl rfl ?_ | refine V.pickF rfl rfl rfl rfl rfl ?_ | refine V.step rfl ?_ | refine V.load rfl rfl rfl rfl rfl rfl ?_))
            refine V.litP rfl rfl rfl rfl rfl rfl fun c2 h5 hle5 hat5 => ?_; (repeat (first | refine V.stepY rfl ?_ | refine V.loadY rfl rfl rfl rfl rfl rfl ?_ | refine V.store rfl rfl rfl rfl rfl rfl rfl ?_ | refine V.condT rfl ?_ | refine V.condF rfl ?_ | refine V.skip rfl rfl ?_ | refine V.skipU rfl rfl rfl ?_ | refine V.pickT rfl rfl rfl rfl rfl ?_ | refine V.pickF rfl rfl rfl rfl rfl ?_ | refine V.step rfl ?_ | refine V.load rfl rfl rfl rfl rfl rfl ?_))
            refine V.perm (L' := x2 :: _ :: _ :: _ :: _ :: _ :: _ :: _ :: L) (List.perm_middle (l₁ := [_, _, _]) (l₂ := _ :: _ :: _ :: _ :: L)) ?_
            have hb2 : Sl h5 4 (.slice (some ⟨c2, 0, none⟩) 1 1) (nrc (ne b)) := Sl.of (Nat.le_refl _) rfl hat5
            have hb1 : Sl h5 4 (.slice (some ⟨jb, jo, none⟩) 1 cc) (nrc (ne a)) := Sl.of hcc rfl (hat3.mono (GH.le_trans hle4 hle5))
            refine V.appendN 2 rfl rfl rfl rfl rfl rfl rfl rfl rfl rfl rfl rfl hb1 tl2 hb2 (by simp only [nrc, List.length_cons, List.length_nil]; omega) rfl (by decide) ?_
            intro jb2 jo2 cc2 h6 x3 hle6 hcc2 hat6 tl3; (repeat (first | refine V.stepY rfl ?_ | refine V.loadY rfl rfl rfl rfl rfl rfl ?_ | refine V.store rfl rfl rfl rfl rfl rfl rfl ?_ | refine V.condT rfl ?_ | refine V.condF rfl ?_ | refine V.skip rfl rfl ?_ | refine V.skipU rfl rfl rfl ?_ | refine V.pickT rfl rfl rfl rfl rfl ?_ | refine V.pickF rfl rfl rfl rfl rfl ?_ | refine V.step rfl ?_ | refine V.load rfl rfl rfl rfl rfl rfl ?_))
            have hlt2 := GH.le_trans hlt (GH.le_trans hle4 (GH.le_trans hle5 hle6))
            have hff := hf1.2 ⟨hfa, by rw [← hro]; exact hfb⟩
            have ba := ne_bounds N a (by omega) hfa.1
            have bb' := ne_bounds N b (by omega) hfb.1
            have bs := hff.2.1
            refine V.again ?_; (repeat (first | refine V.stepY rfl ?_ | refine V.loadY rfl rfl rfl rfl rfl rfl ?_ | refine V.store rfl rfl rfl rfl rfl rfl rfl ?_ | refine V.condT rfl ?_ | refine V.condF rfl ?_ | refine V.skip rfl rfl ?_ | refine V.skipU rfl rfl rfl ?_ | refine V.pickT rfl rfl rfl rfl rfl ?_ | refine V.pickF rfl rfl rfl rfl rfl ?_ | refine V.step rfl ?_ | refine V.load rfl rfl rfl rfl rfl rfl ?_))
            have key : walkR ⟨k, o, t, n, v, [a, b]⟩ room deep rb h L (.agg ⟨nrc (jn k o t n v [ne a, ne b])⟩) h6 (⟨rb, 0, [.int .i64 room2], none⟩ :: L) := by
              rw [show jn k o t n v [ne a, ne b] = ne ⟨k, o, t, n, v, [a, b]⟩ by simp only [ne, nel]]
              exact walk_yes hlt2 hff (by simp only [sz, szl]; omega)
            simp only [sz, szl] at bs
            refine V.callIs rfl rfl rfl rfl rfl rfl (joinB_does w0 h6 (hw.1.mono hlt2) _ k o t n v a b (ne a) (ne b) (by omega) (by omega) hff.1 (some ⟨bb, off, none⟩) 2 cap jb2 jo2 cc2 (at2 hat6).1 (at2 hat6).2) ?_; (repeat (first | refine V.stepY rfl ?_ | refine V.loadY rfl rfl rfl rfl rfl rfl ?_ | refine V.store rfl rfl rfl rfl rfl rfl rfl ?_ | refine V.condT rfl ?_ | refine V.condF rfl ?_ | refine V.skip rfl rfl ?_ | refine V.skipU rfl rfl rfl ?_ | refine V.pickT rfl rfl rfl rfl rfl ?_ | refine V.pickF rfl rfl rfl rfl rfl ?_ | refine V.step rfl ?_ | refine V.load rfl rfl rfl rfl rfl rfl ?_))
            refine retC0 rfl rfl rfl rfl rfl rfl rfl ⟨⟨rb, 0, [.int .i64 _], none⟩ :: L, (by repeat (first | exact List.Sublist.refl _ | apply List.Sublist.cons_cons | apply List.Sublist.cons)), ?_⟩; exact key
          · rw [if_neg hfb] at hv2
            subst hv2
            refine V.alloc rfl rfl rfl rfl rfl rfl fun b10' => ?_; (repeat (first | refine V.stepY rfl ?_ | refine V.loadY rfl rfl rfl rfl rfl rfl ?_ | refine V.store rfl rfl rfl rfl rfl rfl rfl ?_ | refine V.condT rfl ?_ | refine V.condF rfl ?_ | refine V.skip rfl rfl ?_ | refine V.skipU rfl rfl rfl ?_ | refine V.pickT rfl rfl rfl rfl rfl ?_ | refine V.pickF rfl rfl rfl rfl rfl ?_ | refine V.step rfl ?_ | refine V.load rfl rfl rfl rfl rfl rfl ?_))
            refine retC0 rfl rfl rfl rfl rfl rfl rfl ⟨⟨rb, 0, [.int .i64 _], none⟩ :: L, (by repeat (first | exact List.Sublist.refl _ | apply List.Sublist.cons_cons | apply List.Sublist.cons)), ?_⟩; exact walk_no (GH.le_trans hlt hle4) (fun hh => hfb (by rw [hro]; exact (hf1.1 hh).2))
        · rw [if_neg hfa] at hv1
          subst hv1
          refine V.alloc rfl rfl rfl rfl rfl rfl fun b10 => ?_; (repeat (first | refine V.stepY rfl ?_ | refine V.loadY rfl rfl rfl rfl rfl rfl ?_ | refine V.store rfl rfl rfl rfl rfl rfl rfl ?_ | refine V.condT rfl ?_ | refine V.condF rfl ?_ | refine V.skip rfl rfl ?_ | refine V.skipU rfl rfl rfl ?_ | refine V.pickT rfl rfl rfl rfl rfl ?_ | refine V.pickF rfl rfl rfl rfl rfl ?_ | refine V.step rfl ?_ | refine V.load rfl rfl rfl rfl rfl rfl ?_))
          refine retC0 rfl rfl rfl rfl rfl rfl rfl ⟨⟨rb, 0, [.int .i64 _], none⟩ :: L, (by repeat (first | exact List.Sublist.refl _ | apply List.Sublist.cons_cons | apply List.Sublist.cons)), ?_⟩; exact walk_no hle1 (fun hh => hfa (hf1.1 hh).1)
    · obtain ⟨k, o, t, n, v, l⟩ := e
      simp only [RK] at hr
      obtain ⟨hz, a, cap, rfl, hcap, hl⟩ := hr
      refine Does.resL (Does.of_V (cfg w0 60 Tryd.f60 49 (RL (walkR _ room deep rb h L)) Tryd.func60) rfl rfl rfl rfl rfl rfl ?_); (repeat (first | refine V.step rfl ?_ | refine V.load rfl rfl rfl rfl rfl rfl ?_ | refine V.store rfl rfl rfl rfl rfl rfl rfl ?_ | refine V.condT rfl ?_ | refine V.condF rfl ?_)); refine V.box rfl rfl rfl rfl rfl rfl fun be => ?_; refine V.alloc rfl rfl rfl rfl rfl rfl fun bx => ?_; (repeat (first | refine V.step rfl ?_ | refine V.load rfl rfl rfl rfl rfl rfl ?_ | refine V.store rfl rfl rfl rfl rfl rfl rfl ?_ | refine V.condT rfl ?_ | refine V.condF rfl ?_))
      refine V.split 19 rfl (fun hc => (by simp at hc; (repeat (first | refine V.stepY rfl ?_ | refine V.loadY rfl rfl rfl rfl rfl rfl ?_ | refine V.store rfl rfl rfl rfl rfl rfl rfl ?_ | refine V.condT rfl ?_ | refine V.condF rfl ?_ | refine V.skip rfl rfl ?_ | refine V.skipU rfl rfl rfl ?_ | refine V.pickT rfl rfl rfl rfl rfl ?_ | refine V.pickF rfl rfl rfl rfl rfl ?_ | refine V.step rfl ?_ | refine V.load rfl rfl rfl rfl rfl rfl ?_)); refine retC0 rfl rfl rfl rfl rfl rfl rfl ⟨⟨rb, 0, [.int .i64 _], none⟩ :: L, (by repeat (first | exact List.Sublist.refl _ | apply List.Sublist.cons_cons | apply List.Sublist.cons)), ?_⟩; exact walk_no (GH.le_refl _) (fits_not (by omega)))) (fun hc => ?_); (simp at hc); (repeat (first | refine V.stepY rfl ?_ | refine V.loadY rfl rfl rfl rfl rfl rfl ?_ | refine V.store rfl rfl rfl rfl rfl rfl rfl ?_ | refine V.condT rfl ?_ | refine V.condF rfl ?_ | refine V.skip rfl rfl ?_ | refine V.skipU rfl rfl rfl ?_ | refine V.pickT rfl rfl rfl rfl rfl ?_ | refine V.pickF rfl rfl rfl rfl rfl ?_ | refine V.step rfl ?_ | refine V.load rfl rfl rfl rfl rfl rfl ?_)); refine V.callIs rfl rfl rfl rfl rfl rfl (plain_does w0 h _ _ _ hr') ?_; (repeat (first | refine V.stepY rfl ?_ | refine V.loadY rfl rfl rfl rfl rfl rfl ?_ | refine V.store rfl rfl rfl rfl rfl rfl rfl ?_ | refine V.condT rfl ?_ | refine V.condF rfl ?_ | refine V.skip rfl rfl ?_ | refine V.skipU rfl rfl rfl ?_ | refine V.pickT rfl rfl rfl rfl rfl ?_ | refine V.pickF rfl rfl rfl rfl rfl ?_ | refine V.step rfl ?_ | refine V.load rfl rfl rfl rfl rfl rfl ?_))
      refine V.cond rfl (fun hd => ?_) (fun hd => (by simp at hd; exact (hs hd).elim))
      (repeat (first | refine V.stepY rfl ?_ | refine V.loadY rfl rfl rfl rfl rfl rfl ?_ | refine V.store rfl rfl rfl rfl rfl rfl rfl ?_ | refine V.condT rfl ?_ | refine V.condF rfl ?_ | refine V.skip rfl rfl ?_ | refine V.skipU rfl rfl rfl ?_ | refine V.pickT rfl rfl rfl rfl rfl ?_ | refine V.pickF rfl rfl rfl rfl rfl ?_ | refine V.step rfl ?_ | refine V.load rfl rfl rfl rfl rfl rfl ?_)); refine retC0 rfl rfl rfl rfl rfl rfl rfl ⟨⟨rb, 0, [.int .i64 _], none⟩ :: L, (by repeat (first | exact List.Sublist.refl _ | apply List.Sublist.cons_cons | apply List.Sublist.cons)), ?_⟩; exact walk_no (GH.le_refl _) (fits_not (.inr (.inr (by simpa using hs))))
end Go.Proofs.YtgmeahcclogfmaaDoor.S22
/-!
  Chapter 22: measure and its readers; trees the laws build.
-/
namespace Go.Proofs.YtgmeahcclogfmaaDoor.S22
open Go Go.Tp
set_option linter.unusedVariables false
set_option linter.unusedSimpArgs false
set_option maxRecDepth 100000
set_option maxHeartbeats 4000000
def nrV (e : KE) : List Value := if valid e then nrc (ne e) else zeros
theorem measure_does (w0 : World) (h : GH) (hq : atH h 0 0 quietL) (L : List Ent) (e : KE) (cs : List Value) (hr : RK h e cs) : Does Tryd.prog w0 51 [.agg ⟨cs⟩] h L (Is (.agg ⟨nrV e⟩) h L) := by
  have hr' := hr
  obtain ⟨k, o, t, n, v, a, m, cap, rfl⟩ := RK_c hr
  refine Does.is (Does.of_V (cfg w0 51 Tryd.f51 9 (RIs (.agg ⟨nrV e⟩) h L) Tryd.func51) rfl rfl rfl rfl rfl rfl ?_)
  (repeat (first | refine V.step rfl ?_ | refine V.load rfl rfl rfl rfl rfl rfl ?_ | refine V.store rfl rfl rfl rfl rfl rfl rfl ?_ | refine V.condT rfl ?_ | refine V.condF rfl ?_)); refine V.box rfl rfl rfl rfl rfl rfl fun be => ?_; refine V.alloc rfl rfl rfl rfl rfl rfl fun bx => ?_; (repeat (first | refine V.step rfl ?_ | refine V.load rfl rfl rfl rfl rfl rfl ?_ | refine V.store rfl rfl rfl rfl rfl rfl rfl ?_ | refine V.condT rfl ?_ | refine V.condF rfl ?_))
  refine V.alloc rfl rfl rfl rfl rfl rfl fun rb => ?_; (repeat (first | refine V.step rfl ?_ | refine V.load rfl rfl rfl rfl rfl rfl ?_ | refine V.store rfl rfl rfl rfl rfl rfl rfl ?_ | refine V.condT rfl ?_ | refine V.condF rfl ?_))
  refine V.alloc rfl rfl rfl rfl rfl rfl fun wb => ?_; (repeat (first | refine V.step rfl ?_ | refine V.load rfl rfl rfl rfl rfl rfl ?_ | refine V.store rfl rfl rfl rfl rfl rfl rfl ?_ | refine V.condT rfl ?_ | refine V.condF rfl ?_))
  refine V.publish fun hle => ?_
  have hw : WH (h.add wb 0 [.func (.func 60) #[] #[.pointer (some ⟨rb, 0, none⟩), .pointer (some ⟨wb, 0, none⟩)]]) rb wb := ⟨hq.mono hle, GH.add_at h wb 0 _ (i := 0) rfl⟩
  refine V.call rfl rfl rfl rfl rfl rfl (walk_does w0 rb wb _ e _ _ _ 256 1 (Nat.le_refl _) (RK.mono hle hr) hw (by omega) (by omega) (by omega) (by omega)) ?_
  rintro v1 h1 L1 ⟨hle1, room1, rfl, hv1⟩
  have hle2 := GH.le_trans hle hle1
  by_cases hv : valid e
  · have hnv : nrV e = nrc (ne e) := if_pos hv
    rw [if_pos (show fits e 256 (33 - 1) from hv)] at hv1
    obtain ⟨rfl, _⟩ := hv1
    (repeat (first | refine V.step rfl ?_ | refine V.load rfl rfl rfl rfl rfl rfl ?_ | refine V.store rfl rfl rfl rfl rfl rfl rfl ?_ | refine V.condT rfl ?_ | refine V.condF rfl ?_)); refine retC0 rfl rfl rfl rfl rfl rfl rfl ⟨?_, hle2, (by repeat (first | exact List.Sublist.refl _ | apply List.Sublist.cons_cons | apply List.Sublist.cons))⟩; rw [hnv]; rfl
  · have hnv : nrV e = zeros := if_neg hv
    rw [if_neg (show ¬ fits e 256 (33 - 1) from hv)] at hv1
    subst hv1
    (repeat (first | refine V.step rfl ?_ | refine V.load rfl rfl rfl rfl rfl rfl ?_ | refine V.store rfl rfl rfl rfl rfl rfl rfl ?_ | refine V.condT rfl ?_ | refine V.condF rfl ?_)); refine retC0 rfl rfl rfl rfl rfl rfl rfl ⟨?_, hle2, (by repeat (first | exact List.Sublist.refl _ | apply List.Sublist.cons_cons | apply List.Sublist.cons))⟩; rw [hnv]; rfl
theorem nrV_eq (e : KE) : nrV e = [.bool (decide (valid e)), .bool (nrOf e).safe, .int .i64 (nrOf e).regs, .int .i64 (nrOf e).temps] := by
  unfold nrV nrOf
  by_cases h : valid e
  · simp [h, nrc]
  · simp [h, zeros]
theorem measure_cells (w0 : World) (h : GH) (hq : atH h 0 0 quietL) (L : List Ent) (e : KE) (cs : List Value) (hr : RK h e cs) :
    Does Tryd.prog w0 51 [.agg ⟨cs⟩] h L (Is (.agg ⟨[.bool (decide (valid e)), .bool (nrOf e).safe, .int .i64 (nrOf e).regs, .int .i64 (nrOf e).temps]⟩) h L) := by
  have := measure_does w0 h hq L e cs hr
  rw [nrV_eq] at this; exact this
theorem dsafe_does (w0 : World) (h : GH) (hq : atH h 0 0 quietL) (L : List Ent) (e : KE) (cs : List Value) (hr : RK h e cs) : Does Tryd.prog w0 37 [.agg ⟨cs⟩] h L (Is (.bool (nrOf e).safe) h L) := by
  have hr' := hr
  obtain ⟨k, o, t, n, v, a, m, cap, rfl⟩ := RK_c hr
  refine Does.is (Does.of_V (cfg w0 37 Tryd.f37 6 (RIs (.bool _) h L) Tryd.func37) rfl rfl rfl rfl rfl rfl ?_)
  (repeat (first | refine V.step rfl ?_ | refine V.load rfl rfl rfl rfl rfl rfl ?_ | refine V.store rfl rfl rfl rfl rfl rfl rfl ?_ | refine V.condT rfl ?_ | refine V.condF rfl ?_)); refine V.box rfl rfl rfl rfl rfl rfl fun be => ?_; (repeat (first | refine V.step rfl ?_ | refine V.load rfl rfl rfl rfl rfl rfl ?_ | refine V.store rfl rfl rfl rfl rfl rfl rfl ?_ | refine V.condT rfl ?_ | refine V.condF rfl ?_)); refine V.callIs rfl rfl rfl rfl rfl rfl (measure_cells w0 h hq _ e _ hr') ?_; (repeat (first | refine V.step rfl ?_ | refine V.load rfl rfl rfl rfl rfl rfl ?_ | refine V.store rfl rfl rfl rfl rfl rfl rfl ?_ | refine V.condT rfl ?_ | refine V.condF rfl ?_)); refine V.ret1 (L0 := []) rfl rfl rfl rfl rfl ⟨?_, GH.le_refl _, (by repeat (first | exact List.Sublist.refl _ | apply List.Sublist.cons_cons | apply List.Sublist.cons))⟩; rfl
end Go.Proofs.YtgmeahcclogfmaaDoor.S22
/-!
  Chapter 22 for other chapters: depth.Safe, by both texts.
-/
namespace Go.Proofs.YtgmeahcclogfmaaDoor
open Go Go.Tp
set_option linter.unusedVariables false
set_option linter.unusedSimpArgs false
set_option maxRecDepth 100000
set_option maxHeartbeats 4000000
abbrev gsQ : Ua := [(0, .pe 27 (.ag (S22.quietL.map .v)))]
abbrev safeK (e : KE) : Bool := (S22.nrOf e).safe
theorem RpC1 {h : GH} {x : Value} {r : List AV} {vs : List Value} (q : RpC h (.v x :: r) vs) : ∃ vs', vs = x :: vs' ∧ RpC h r vs' := by
  rw [RpC_cons] at q
  obtain ⟨v, vs', rfl, h1, h2⟩ := q
  rw [Rp_v] at h1
  exact ⟨vs', by rw [h1.1], h2⟩
mutual
theorem RK_of {h : GH} : ∀ {e : KE} {cs : List Value}, wfK e → Rp h (encK e) (.agg ⟨cs⟩) → RK h e cs
  | ⟨k, o, t, n, v, l⟩, cs, hw, q => by
    rw [wfK] at hw
    rw [encK, Rp_ag] at q
    obtain ⟨cs', e1, q⟩ := q
    injection e1 with e1; injection e1 with e1; subst e1
    obtain ⟨c1, rfl, k1⟩ := RpC1 q
    obtain ⟨c2, rfl, k2⟩ := RpC1 k1
    obtain ⟨c3, rfl, k3⟩ := RpC1 k2
    obtain ⟨c4, rfl, k4⟩ := RpC1 k3
    obtain ⟨c5, rfl, k5⟩ := RpC1 k4
    rw [RpC_cons] at k5
    obtain ⟨u, us, rfl, q1, q2⟩ := k5
    rw [RpC_nil] at q2; subst q2
    rw [Rp_sl] at q1
    obtain ⟨a, cap, rfl, q2, _, q3⟩ := q1
    have hl : (encKl l).length = l.length := by rw [encKl_map, List.length_map]
    rw [RK]
    refine ⟨hw.1, a, cap, by rw [hl], by rw [← hl]; exact q2, fun hn => ?_⟩
    obtain ⟨b, oo, rfl, q4⟩ := q3 (fun hh => hn (by rw [hh] at hl; exact List.length_eq_zero_iff.1 hl.symm))
    exact ⟨b, oo, rfl, RKl_of' hw.2 q4⟩
theorem RKl_of' {h : GH} : ∀ {l : List KE} {b o : Nat}, wfKl l → RpE h 6 (encKl l) b o → RKl h l b o
  | [], _, _, _, _ => by rw [RKl]; trivial
  | e :: r, b, o, hw, q => by
    rw [wfKl] at hw
    rw [encKl, RpE_cons] at q
    obtain ⟨⟨z, q1, q2, q3⟩, q4⟩ := q
    rw [RKl]
    have q5 := q1
    rw [encK_eq, Rp_ag] at q5
    obtain ⟨cs, rfl, _⟩ := q5
    have e1 : cellsL (.agg ⟨cs⟩) = cs := rfl
    rw [e1] at q3
    exact ⟨⟨cs, q3, RK_of hw.1 q1⟩, RKl_of' hw.2 q4⟩
end
theorem quiet_gs {h : GH} (g : GsOk h gsQ) : atH h 0 0 S22.quietL := by
  have q := g 0 _ rfl
  rw [Rp_pe] at q
  obtain ⟨b, o, z, e1, q1, q2, q3⟩ := q
  injection e1 with e1; injection e1 with e1; injection e1 with e1 e2
  subst e1; subst e2
  rw [Rp_ag] at q1
  obtain ⟨cs, rfl, q1⟩ := q1
  have : ∀ (l cs : List Value), RpC h (l.map .v) cs → cs = l := fun l => by
    induction l with
    | nil => intro cs q; rw [List.map_nil, RpC_nil] at q; exact q
    | cons x r ih =>
      intro cs q
      obtain ⟨vs, rfl, k1⟩ := RpC1 q
      rw [ih vs k1]
  have := this _ _ q1
  subst this
  exact q3
theorem pure_is {f : FuncId} {e : KE} {v : Value} (hw : wfK e) (hv : oneC v = true) (hd : ∀ w0 h L cs, atH h 0 0 S22.quietL → RK h e cs → Does Tryd.prog w0 f [.agg ⟨cs⟩] h L (Is v h L)) : Pure Tryd.prog gsQ f [encK e] (.v v) := by
  intro w0 h vs L F g r q
  have q : L = [] := q
  subst q
  rw [RpC_cons] at r
  obtain ⟨u, us, rfl, r1, r2⟩ := r
  rw [RpC_nil] at r2; subst r2
  have r3 := r1
  rw [encK_eq, Rp_ag] at r3
  obtain ⟨cs, rfl, _⟩ := r3
  refine (hd w0 h F cs (quiet_gs g) (RK_of hw r1)).mono fun v' h' L' ⟨e1, e2, e3⟩ => ?_
  subst e1; subst e2; subst e3
  exact ⟨_, [], [], ⟨rfl, rfl⟩, Rp_v.2 ⟨rfl, hv⟩, GH.le_refl _, rfl, rfl⟩
theorem dsafe_p (e : KE) (hw : wfK e) : Pure Tryd.prog gsQ 37 [encK e] (AB (safeK e)) := pure_is hw rfl fun w0 h L cs hq hr => S22.dsafe_does w0 h hq L e cs hr
end Go.Proofs.YtgmeahcclogfmaaDoor
/-!
  Chapter 23: the last process of a sequence that clears, by the reference; inputs and outputs of a step.
-/
namespace Go.Proofs.YtgmeahcclogfmaaDoor
open Go Go.Tp
set_option linter.unusedVariables false
set_option linter.unusedSimpArgs false
set_option maxRecDepth 100000
set_option maxHeartbeats 4000000
end Go.Proofs.YtgmeahcclogfmaaDoor
/-!
  Chapter 23: inputs and outputs of a step; whether one is safe.
-/
namespace Go.Proofs.YtgmeahcclogfmaaDoor
open Go Go.Tp
set_option linter.unusedVariables false
set_option linter.unusedSimpArgs false
set_option maxRecDepth 100000
set_option maxHeartbeats 4000000
/-! ### what a right process of some kinds has -/
theorem inB_one {m : Nat} (h : inB m 1 1 = true) : m = 1 := by simp only [inB, Bool.and_eq_true, decide_eq_true_eq] at h; omega
theorem kind_6 {l : List KV} {n : Nat} {p : PR} (h : kindB l n p = true) (k : p.kind = 6) : ∃ x, p.e = [x] ∧ chanB n p.c p.item 0 = true := by
  obtain ⟨kd, c, v, it, to, e, gs, b⟩ := p
  simp only [PR.kind] at k
  subst k
  have hs : kindB l n ⟨6, c, v, it, to, e, gs, b⟩ = (shapeR ⟨6, c, v, it, to, e, gs, b⟩ true false 0 0 1 1 0 0 0 0 && chanB n c it 0 && fit1 l e it) := rfl
  rw [hs] at h
  simp only [shapeR, Bool.and_eq_true] at h
  obtain ⟨x, hx⟩ := one_of (inB_one h.1.1.1.1.2)
  exact ⟨x, hx, h.1.2⟩
theorem kind_5 {l : List KV} {n : Nat} {p : PR} (h : kindB l n p = true) (k : p.kind = 5) : ∃ t, p.to = [t] ∧ inputB l n p.c p.item t = true := by
  obtain ⟨kd, c, v, it, to, e, gs, b⟩ := p
  simp only [PR.kind] at k
  subst k
  have hs : kindB l n ⟨5, c, v, it, to, e, gs, b⟩ = (shapeR ⟨5, c, v, it, to, e, gs, b⟩ true false 1 1 0 0 0 0 0 0 && to1 (inputB l n c it) to) := rfl
  rw [hs] at h
  simp only [shapeR, Bool.and_eq_true] at h
  obtain ⟨x, hx⟩ := one_of (inB_one h.1.1.1.1.2)
  refine ⟨x, hx, ?_⟩
  have h2 := h.2
  simp only [PR.to] at hx
  rw [hx] at h2
  exact h2
theorem kind_13 {l : List KV} {n : Nat} {p : PR} (h : kindB l n p = true) (k : p.kind = 13) : ∃ x y, p.e = [x] ∧ p.l = [y] := by
  obtain ⟨kd, c, v, it, to, e, gs, b⟩ := p
  simp only [PR.kind] at k
  subst k
  have hs : kindB l n ⟨13, c, v, it, to, e, gs, b⟩ = (shapeR ⟨13, c, v, it, to, e, gs, b⟩ false false 0 0 1 1 0 0 1 1 && fit1 l e 3) := rfl
  rw [hs] at h
  simp only [shapeR, Bool.and_eq_true] at h
  obtain ⟨x, hx⟩ := one_of (inB_one h.1.1.1.2)
  obtain ⟨y, hy⟩ := one_of (inB_one h.1.2)
  exact ⟨x, y, hx, hy⟩
theorem place_at {l : List KV} {p : PL} {k : Int} (h : placeB l p k = true) : 0 ≤ p.v ∧ ∃ y, l[p.v.toNat]? = some y := by
  unfold placeB at h
  split at h
  · cases h
  · rename_i hn
    exact ⟨by omega, at_exN (by omega)⟩
theorem input_place {l : List KV} {n : Nat} {c it : Int} {t : PL} (h : inputB l n c it t = true) : chanB n c it 1 = true ∧ placeB l t it = true := by rw [inputB, Bool.and_eq_true] at h; exact h
theorem chan_lt {n : Nat} {c it no : Int} (h : chanB n c it no = true) : 0 ≤ c ∧ c < n := by simp only [chanB, Bool.and_eq_true, decide_eq_true_eq] at h; omega
/-! ### the inputs and outputs of a step -/
def badQ (q : PR) : Bool := (q.kind != 5 && q.kind != 6) || decide (q.c < 2)
def stepL (p : PR) : List PR := if p.kind = 10 then p.l else [p]
def singleP (p : PR) : List PR := if (stepL p).any badQ = true then [] else stepL p
theorem encRl_one (p : PR) : encRl [p] = [cellsR p] := by rw [encRl, encRl, encR_eq]
theorem stepL_len (p : PR) (h : p.l.length ≤ 281474976710656) : (stepL p).length ≤ 281474976710656 := by
  unfold stepL; split
  · exact h
  · show 1 ≤ _; omega
theorem badq_p (q : PR) : Pure Tryd.prog gs0 36 [cellsR q] (AB (badQ q)) := by
  refine Pure.of (S := tt) (fn := Tryd.f36) (n := 16) tt_ok Tryd.func36 rfl rfl rfl rfl fun w0 h0 F hgs => ?_
  (repeat' first|first|refine A.s rfl ?_|refine A.r rfl rfl ?_|refine A.w rfl rfl ?_|refine A.p rfl ?_|refine A.b rfl fun bx=>?_|refine A.t rfl fun bl=>?_|((fail_if_success (refine A.lit? rfl ?_)); refine A.gS rfl (fun hc => ?_) (fun hc => ?_))|((fail_if_success (refine A.litP? rfl ?_)); refine A.gSP rfl (fun hc => ?_) (fun hc => ?_)))
  all_goals (refine A.ret1 (Λ' := []) rfl rfl rfl (List.nil_sublist _) ⟨?_, rfl⟩; refine Sb.eq (ab_eq ?_))
  all_goals (unfold badQ; first | (simp_all; done) | rfl | skip)
theorem single_p (p : PR) (hl : p.l.length ≤ 281474976710656) : Pure Tryd.prog gs0 28 [cellsR p] (rsA (singleP p)) := by
  have hcf := hasR_p 36 [] badQ (stepL p) (fun g _ => badq_p g) (stepL_len p hl)
  by_cases h10 : p.kind = 10
  · have hb : (p.kind == 10) = true := beq_iff_eq.2 h10
    rw [singleP, show stepL p = p.l from if_pos h10] at *
    cases hany : p.l.any badQ with
    | true =>
      rw [hany] at hcf
      rw [if_pos rfl]
      refine Pure.of (S := tt) (fn := Tryd.f28) (n := 14) tt_ok Tryd.func28 rfl rfl rfl rfl fun w0 h0 F hgs => ?_
      (repeat first|refine A.s rfl ?_|refine A.r rfl rfl ?_|refine A.b rfl fun bx=>?_|refine A.t rfl fun bl=>?_)
      refine A.valE 8 rfl (x' := AB true) (ab_eq hb) ?_
      (repeat first|refine A.s rfl ?_|refine A.r rfl rfl ?_)
      refine A.c rfl hcf .refl ?_
      (repeat refine A.s rfl ?_); refine A.ret1 (Λ' := []) rfl rfl rfl (List.nil_sublist _) ⟨?_, rfl⟩; exact .nil
    | false =>
      rw [hany] at hcf
      rw [if_neg (by simp)]
      refine Pure.of (S := tt) (fn := Tryd.f28) (n := 14) tt_ok Tryd.func28 rfl rfl rfl rfl fun w0 h0 F hgs => ?_
      (repeat first|refine A.s rfl ?_|refine A.r rfl rfl ?_|refine A.b rfl fun bx=>?_|refine A.t rfl fun bl=>?_)
      refine A.valE 8 rfl (x' := AB true) (ab_eq hb) ?_
      (repeat first|refine A.s rfl ?_|refine A.r rfl rfl ?_)
      refine A.c rfl hcf .refl ?_
      (repeat refine A.s rfl ?_); refine A.ret1 (Λ' := []) rfl rfl rfl (List.nil_sublist _) ⟨?_, rfl⟩; exact .refl
  · have hb : (p.kind == 10) = false := beq_eq_false_iff_ne.2 h10
    rw [singleP, show stepL p = [p] from if_neg h10] at *
    rw [rsA, encRl_one] at hcf
    cases hany : [p].any badQ with
    | true =>
      rw [hany] at hcf
      rw [if_pos rfl]
      refine Pure.of (S := tt) (fn := Tryd.f28) (n := 14) tt_ok Tryd.func28 rfl rfl rfl rfl fun w0 h0 F hgs => ?_
      (repeat first|refine A.s rfl ?_|refine A.r rfl rfl ?_|refine A.b rfl fun bx=>?_|refine A.t rfl fun bl=>?_)
      refine A.valE 8 rfl (x' := AB false) (ab_eq hb) ?_
      (repeat refine A.s rfl ?_)
      refine A.c rfl hcf (by repeat (first | exact Sb.refl | exact SbL.refl | refine SbL.cons ?_ ?_ | exact Sb.nil | exact Sb.own1 | refine Sb.own ?_ | refine Sb.ag ?_ | refine Sb.tp ?_)) ?_
      (repeat refine A.s rfl ?_); refine A.ret1 (Λ' := []) rfl rfl rfl (List.nil_sublist _) ⟨?_, rfl⟩; exact .nil
    | false =>
      rw [hany] at hcf
      rw [if_neg (by simp), rsA, encRl_one]
      refine Pure.of (S := tt) (fn := Tryd.f28) (n := 14) tt_ok Tryd.func28 rfl rfl rfl rfl fun w0 h0 F hgs => ?_
      (repeat first|refine A.s rfl ?_|refine A.r rfl rfl ?_|refine A.b rfl fun bx=>?_|refine A.t rfl fun bl=>?_)
      refine A.valE 8 rfl (x' := AB false) (ab_eq hb) ?_
      (repeat refine A.s rfl ?_)
      refine A.c rfl hcf (by repeat (first | exact Sb.refl | exact SbL.refl | refine SbL.cons ?_ ?_ | exact Sb.nil | exact Sb.own1 | refine Sb.own ?_ | refine Sb.ag ?_ | refine Sb.tp ?_)) ?_
      (repeat refine A.s rfl ?_); refine A.ret1 (Λ' := []) rfl rfl rfl (List.nil_sublist _) ⟨?_, rfl⟩; exact .own .refl
end Go.Proofs.YtgmeahcclogfmaaDoor
/-!
  Chapter 23: whether an input or an output is safe.
-/
namespace Go.Proofs.YtgmeahcclogfmaaDoor
open Go Go.Tp
set_option linter.unusedVariables false
set_option linter.unusedSimpArgs false
set_option maxRecDepth 100000
set_option maxHeartbeats 4000000
def safeT (l : List KV) (t : PL) : Bool := match t.ix with
  | [] => true
  | e :: _ => e.kind == 1 && decide (0 ≤ e.n) && (match l[t.v.toNat]? with
    | some y => decide (e.n < y.dim)
    | none => false)
def safeB (l : List KV) (p : PR) : Bool := if p.kind = 6 then (match p.e with
  | e :: _ => safeK e
  | [] => false) else (match p.to with
  | t :: _ => safeT l t
  | [] => false)
theorem safe_to (k : KN) (c w it : Int) (t : PL) (hw : wfPl t) (e : List KE) (gs : List GD) (b : List PR) (y : KV) (hv0 : 0 ≤ t.v) (hy : k.vars[t.v.toNat]? = some y) : Pure Tryd.prog gsQ 30 [encN k, cellsR ⟨5, c, w, it, [t], e, gs, b⟩] (AB (safeT k.vars t)) := by
  obtain ⟨v, ix⟩ := t
  simp only at hv0 hy
  cases ix with
  | nil =>
    rw [show safeT k.vars ⟨v, []⟩ = true from rfl]
    refine Pure.of (S := tt) (fn := Tryd.f30) (n := 54) tt_ok Tryd.func30 rfl rfl rfl rfl fun w0 h0 F hgs => ?_
    (repeat first|refine A.s rfl ?_|refine A.r rfl rfl ?_|refine A.b rfl fun bx=>?_)
    refine A.x rfl (by decide) rfl rfl rfl ?_
    (repeat first|refine A.s rfl ?_|refine A.w rfl rfl ?_|refine A.b rfl fun bx=>?_)
    refine A.draw 33 [0, 1, 2, 3, 4, 5, 6, 7, 8, 9, 10, 11, 12, 13, 14, 15, 16, 17, 18, 19, 20, 21, 22, 23, 24, 25, 26, 27, 28, 29, 30, 31, 32] noPubs [] (by kernel_rfl) (by kernel_rfl) ?_
    (repeat first|refine WA.s rfl ?_|refine WA.r rfl rfl ?_)
    skip
    refine WA.nil (l := []) rfl ?_
    (repeat refine A.s rfl ?_); refine A.ret1 (Λ' := []) rfl rfl rfl (List.nil_sublist _) ⟨?_, rfl⟩; exact .refl
  | cons x r =>
    have hwx := wfKl_mem hw x (List.mem_cons_self ..)
    have hi32 : i32 x.n := by obtain ⟨xk, xo, xt, xn, xv, xl⟩ := x; rw [wfK] at hwx; exact hwx.1.2.2.2.1
    unfold i32 at hi32
    have hx0 : (encKl (x :: r))[(0 : Int).toNat]? = some (encK x) := encKl_at rfl
    have hln : (((encKl (x :: r)).length : Int) == 0) = false := by rw [encKl_len]; exact beq_eq_false_iff_ne.2 (by rw [List.length_cons]; omega)
    have hst : safeT k.vars ⟨v, x :: r⟩ = (x.kind == 1 && decide (0 ≤ x.n) && decide (x.n < y.dim)) := by unfold safeT; simp only [hy]
    rw [hst]
    clear hst
    cases hk : (x.kind == 1) with
    | false =>
      rw [Bool.false_and, Bool.false_and]
      refine Pure.of (S := tt) (fn := Tryd.f30) (n := 54) tt_ok Tryd.func30 rfl rfl rfl rfl fun w0 h0 F hgs => ?_
      (repeat first|refine A.s rfl ?_|refine A.r rfl rfl ?_|refine A.b rfl fun bx=>?_)
      refine A.x rfl (by decide) rfl rfl rfl ?_
      (repeat first|refine A.s rfl ?_|refine A.w rfl rfl ?_|refine A.b rfl fun bx=>?_)
      refine A.draw 33 [0, 1, 2, 3, 4, 5, 6, 7, 8, 9, 10, 11, 12, 13, 14, 15, 16, 17, 18, 19, 20, 21, 22, 23, 24, 25, 26, 27, 28, 29, 30, 31, 32] noPubs [] (by kernel_rfl) (by kernel_rfl) ?_
      (repeat first|refine WA.s rfl ?_|refine WA.r rfl rfl ?_)
      refine WA.valE 22 rfl (x' := AB false) (ab_eq hln) ?_
      skip
      refine WA.x rfl (by decide) hx0 (encK_eq x) rfl ?_
      (repeat refine WA.s rfl ?_)
      refine WA.valE 29 rfl (x' := AB false) (ab_eq hk) ?_
      (repeat refine WA.s rfl ?_)
      refine WA.nil (l := []) rfl ?_
      (repeat refine A.s rfl ?_); refine A.ret1 (Λ' := []) rfl rfl rfl (List.nil_sublist _) ⟨?_, rfl⟩; exact .refl
    | true =>
    rw [Bool.true_and]
    by_cases hn : 0 ≤ x.n
    case neg =>
      rw [decide_eq_false hn, Bool.false_and]
      refine Pure.of (S := tt) (fn := Tryd.f30) (n := 54) tt_ok Tryd.func30 rfl rfl rfl rfl fun w0 h0 F hgs => ?_
      (repeat first|refine A.s rfl ?_|refine A.r rfl rfl ?_|refine A.b rfl fun bx=>?_)
      refine A.x rfl (by decide) rfl rfl rfl ?_
      (repeat first|refine A.s rfl ?_|refine A.w rfl rfl ?_|refine A.b rfl fun bx=>?_)
      refine A.draw 33 [0, 1, 2, 3, 4, 5, 6, 7, 8, 9, 10, 11, 12, 13, 14, 15, 16, 17, 18, 19, 20, 21, 22, 23, 24, 25, 26, 27, 28, 29, 30, 31, 32] noPubs [] (by kernel_rfl) (by kernel_rfl) ?_
      (repeat first|refine WA.s rfl ?_|refine WA.r rfl rfl ?_)
      refine WA.valE 22 rfl (x' := AB false) (ab_eq hln) ?_
      skip
      refine WA.x rfl (by decide) hx0 (encK_eq x) rfl ?_
      (repeat refine WA.s rfl ?_)
      refine WA.valE 29 rfl (x' := AB true) (ab_eq hk) ?_
      (repeat first|refine WA.s rfl ?_|refine WA.r rfl rfl ?_)
      refine WA.x rfl (by decide) hx0 (encK_eq x) rfl ?_
      (repeat refine WA.s rfl ?_)
      refine WA.valE 37 rfl (x' := AB false) (ab_eq (by simpa using hn)) ?_
      (repeat refine WA.s rfl ?_)
      refine WA.nil (l := []) rfl ?_
      (repeat refine A.s rfl ?_); refine A.ret1 (Λ' := []) rfl rfl rfl (List.nil_sublist _) ⟨?_, rfl⟩; exact .refl
    rw [decide_eq_true hn, Bool.true_and]
    have hcv : IntKind.i64.wrap x.n = x.n := wr64 _ (by omega)
    have hlen : ((k.vars.map encV).length : Int) = k.vars.length := by rw [List.length_map]
    generalize hd : decide (x.n < y.dim) = bd
    refine Pure.of (S := tt) (fn := Tryd.f30) (n := 54) tt_ok Tryd.func30 rfl rfl rfl rfl fun w0 h0 F hgs => ?_
    (repeat first|refine A.s rfl ?_|refine A.r rfl rfl ?_|refine A.b rfl fun bx=>?_)
    refine A.x rfl (by decide) rfl rfl rfl ?_
    (repeat first|refine A.s rfl ?_|refine A.w rfl rfl ?_|refine A.b rfl fun bx=>?_)
    refine A.draw 33 [0, 1, 2, 3, 4, 5, 6, 7, 8, 9, 10, 11, 12, 13, 14, 15, 16, 17, 18, 19, 20, 21, 22, 23, 24, 25, 26, 27, 28, 29, 30, 31, 32] noPubs [] (by kernel_rfl) (by kernel_rfl) ?_
    (repeat first|refine WA.s rfl ?_|refine WA.r rfl rfl ?_)
    refine WA.valE 22 rfl (x' := AB false) (ab_eq hln) ?_
    skip
    refine WA.x rfl (by decide) hx0 (encK_eq x) rfl ?_
    (repeat refine WA.s rfl ?_)
    refine WA.valE 29 rfl (x' := AB true) (ab_eq hk) ?_
    (repeat first|refine WA.s rfl ?_|refine WA.r rfl rfl ?_)
    refine WA.x rfl (by decide) hx0 (encK_eq x) rfl ?_
    (repeat refine WA.s rfl ?_)
    refine WA.valE 37 rfl (x' := AB true) (ab_eq (by simpa using hn)) ?_
    (repeat first|refine WA.s rfl ?_|refine WA.r rfl rfl ?_)
    refine WA.x rfl (by decide) hx0 (encK_eq x) rfl ?_
    (repeat first|refine WA.s rfl ?_|refine WA.r rfl rfl ?_)
    refine WA.valE 43 rfl (x' := AI x.n) (ai_eq hcv) ?_
    refine WA.x rfl hv0 (map_at hy) rfl rfl ?_
    (repeat refine WA.s rfl ?_)
    refine WA.nil (l := []) rfl ?_
    (repeat refine A.s rfl ?_); refine A.ret1 (Λ' := []) rfl rfl rfl (List.nil_sublist _) ⟨?_, rfl⟩; rw [← hd]; exact .refl
theorem safe_p (k : KN) (p : PR) (hw : wfR p) (hk : kindB k.vars k.chans.length p = true) (h56 : p.kind = 5 ∨ p.kind = 6) : Pure Tryd.prog gsQ 30 [encN k, cellsR p] (AB (safeB k.vars p)) := by
  have hwa := wfR_all hw
  rcases h56 with h5 | h6
  · obtain ⟨t, ht, hin⟩ := kind_5 hk h5
    have hpl := place_at (input_place hin).2
    obtain ⟨y, hy⟩ := hpl.2
    have hwt := hwa.to t (by rw [ht]; exact List.mem_cons_self ..)
    obtain ⟨kd, c, w, it, to, e, gs, b⟩ := p
    simp only [PR.kind, PR.to] at h5 ht
    subst h5; subst ht
    exact safe_to k c w it t hwt e gs b y hpl.1 hy
  · obtain ⟨x, hx, hch⟩ := kind_6 hk h6
    have hwx := hwa.e x (by rw [hx]; exact List.mem_cons_self ..)
    obtain ⟨kd, c, w, it, to, e, gs, b⟩ := p
    simp only [PR.kind, PR.e] at h6 hx
    subst h6; subst hx
    have hx0 : (encKl [x])[(0 : Int).toNat]? = some (encK x) := encKl_at rfl
    have hd := dsafe_p x hwx
    rw [encK_eq] at hd
    rw [show safeB k.vars ⟨6, c, w, it, to, [x], gs, b⟩ = safeK x from rfl]
    refine Pure.of (S := tt) (fn := Tryd.f30) (n := 54) tt_ok Tryd.func30 rfl rfl rfl rfl fun w0 h0 F hgs => ?_
    (repeat first|refine A.s rfl ?_|refine A.r rfl rfl ?_|refine A.b rfl fun bx=>?_)
    refine A.x rfl (by decide) hx0 (encK_eq x) rfl ?_
    (repeat refine A.s rfl ?_)
    refine A.c rfl hd .refl ?_
    (repeat refine A.s rfl ?_); refine A.ret1 (Λ' := []) rfl rfl rfl (List.nil_sublist _) ⟨?_, rfl⟩; exact .refl
end Go.Proofs.YtgmeahcclogfmaaDoor
/-!
  Chapter 23: the steps of a branch, by the program.
-/
namespace Go.Proofs.YtgmeahcclogfmaaDoor
open Go Go.Tp
set_option linter.unusedVariables false
set_option linter.unusedSimpArgs false
set_option maxRecDepth 100000
set_option maxHeartbeats 4000000
structure Good (k : KN) (p : PR) : Prop where
  wf : wfR p
  ok : ∃ h, okR k.vars k.chans.length h p = true
theorem okL_mem {l : List KV} {n : Nat} {high : Bool} : ∀ {ps : List PR} {first : Bool}, okL l n high first ps = true → ∀ x, x ∈ ps → ∃ h, okR l n h x = true
  | [], _, _, x, hx => by cases hx
  | y :: r, first, h, x, hx => by
    rw [okL, Bool.and_eq_true] at h
    rcases List.mem_cons.1 hx with rfl | hx
    · exact ⟨_, h.1⟩
    · exact okL_mem h.2 x hx
theorem Good.kind {k : KN} {p : PR} (g : Good k p) : kindB k.vars k.chans.length p = true := by
  obtain ⟨h, hk⟩ := g.ok
  rw [okR_eq] at hk
  simp only [Bool.and_eq_true] at hk
  exact hk.1.1.1
theorem Good.l {k : KN} {p : PR} (g : Good k p) {x : PR} (hx : x ∈ p.l) : Good k x := by
  refine ⟨(wfR_all g.wf).l x hx, ?_⟩
  obtain ⟨h, hk⟩ := g.ok
  rw [okR_eq] at hk
  simp only [Bool.and_eq_true] at hk
  exact okL_mem hk.1.2 x hx
theorem Good.len {k : KN} {p : PR} (g : Good k p) : p.l.length ≤ 281474976710656 := (wfR_all g.wf).ll
theorem Good.last {k : KN} {p : PR} (g : Good k p) : Good k (lastR p) := by
  cases h : clearB p with
  | false => rw [lastR_no h]; exact g
  | true =>
    obtain ⟨y, hy⟩ := lastp_at h
    rw [lastR_yes h hy]; exact g.l (List.mem_of_getElem? hy)
theorem form_l2 {k : Int} {f : FM} (h : formK k = some f) : f.l2 ≤ 2048 := by
  by_cases hk : 1 ≤ k ∧ k ≤ 15
  · rcases kinds_15 hk with rfl | rfl | rfl | rfl | rfl | rfl | rfl | rfl | rfl | rfl | rfl | rfl | rfl | rfl | rfl
    all_goals (simp [formK] at h; subst h; simp [fm0])
  · have hn : formK k = none := by
      unfold formK
      rw [if_neg (by omega), if_neg (by omega), if_neg (by omega), if_neg (by omega), if_neg (by omega), if_neg (by omega), if_neg (by omega), if_neg (by omega), if_neg (by omega), if_neg (by omega), if_neg (by omega), if_neg (by omega)]
    rw [hn] at h; cases h
theorem Good.short {k : KN} {p : PR} (g : Good k p) : p.l.length ≤ 2048 := by
  have hlk : looksB p = true := by
    cases h : looksB p with
    | true => rfl
    | false => have := looks_of_kind (l := k.vars) (n := k.chans.length) h; rw [g.kind] at this; cases this
  unfold looksB at hlk
  split at hlk
  · rename_i f hf
    have := form_l2 hf
    simp only [shapeR, inB, Bool.and_eq_true, decide_eq_true_eq] at hlk
    omega
  · cases hlk
theorem stepL_good {k : KN} {s : PR} (g : Good k s) {x : PR} (hx : x ∈ stepL s) : Good k x := by
  unfold stepL at hx
  split at hx
  · exact g.l hx
  · rw [List.mem_singleton] at hx; subst hx; exact g
theorem single_mem {s x : PR} (hx : x ∈ singleP s) : x ∈ stepL s ∧ badQ x = false := by
  unfold singleP at hx
  split at hx
  · cases hx
  · rename_i h
    refine ⟨hx, ?_⟩
    cases hb : badQ x with
    | false => rfl
    | true => exact (h (List.any_eq_true.2 ⟨x, hx, hb⟩)).elim
theorem badq_no {x : PR} (h : badQ x = false) : (x.kind = 5 ∨ x.kind = 6) ∧ 2 ≤ x.c := by
  simp only [badQ, Bool.or_eq_false_iff, Bool.and_eq_false_iff, decide_eq_false_iff_not] at h
  refine ⟨?_, by omega⟩
  rcases h.1 with h | h
  · exact .inl (by simpa using h)
  · exact .inr (by simpa using h)
theorem single_short {k : KN} {s : PR} (g : Good k s) : (singleP s).length ≤ 2048 := by
  have := g.short
  unfold singleP
  by_cases h : (stepL s).any badQ = true
  · rw [if_pos h]; simp
  · rw [if_neg h, stepL]
    by_cases h10 : s.kind = 10
    · rw [if_pos h10]; exact this
    · rw [if_neg h10]; simp
theorem isEmpty_eq (l : List PR) : ((l.length : Int) == 0) = l.isEmpty := by
  cases l with
  | nil => rfl
  | cons a r => exact beq_eq_false_iff_ne.2 (by rw [List.length_cons]; omega)
def oneW (q : PR) : Bool := match q.e with
  | e :: _ => e.kind == 1 && e.n == 1
  | [] => false
def stepsW (q : PR) : List PR := match q.l with
  | y :: _ => if y.kind = 9 then y.l else q.l
  | [] => []
def goodS (k : KN) (s : PR) : Bool := !(singleP s).isEmpty && (singleP s).all (safeB k.vars)
def cycW (k : KN) (q : PR) : List (List PR) := if q.kind = 13 ∧ oneW q = true ∧ (stepsW q).all (goodS k) = true then (stepsW q).map singleP else []
def cycP (k : KN) (p : PR) : List (List PR) := cycW k (lastR p)
abbrev stepsA (l : List (List PR)) : AV := .sl 1 (l.map rsA) none
theorem cyc1_p (k : KN) (x : PR) (g : Good k x) (h56 : x.kind = 5 ∨ x.kind = 6) : Pure Tryd.prog gsQ 29 [cellsR x, .pe 11 (encN k)] (AB (!safeB k.vars x)) := by
  have hs := safe_p k x g.wf g.kind h56
  generalize safeB k.vars x = b at hs ⊢
  refine Pure.of (S := tt) (fn := Tryd.f29) (n := 8) tt_ok Tryd.func29 rfl rfl rfl rfl fun w0 h0 F hgs => ?_
  (repeat first|refine A.s rfl ?_|refine A.r rfl rfl ?_|refine A.b rfl fun bx=>?_)
  refine A.c rfl hs .refl ?_
  (repeat refine A.s rfl ?_); refine A.ret1 (Λ' := []) rfl rfl rfl (List.nil_sublist _) ⟨?_, rfl⟩; exact .refl
theorem unsafe_p (k : KN) (s : PR) (g : Good k s) : Pure Tryd.prog gsQ 23 [rsA (singleP s), .fn 29 [] [.pe 11 (encN k)]] (AB (!(singleP s).all (safeB k.vars))) := by
  have := hasR_p 29 [.pe 11 (encN k)] (fun x => !safeB k.vars x) (singleP s) (fun x hx => cyc1_p k x (stepL_good g (single_mem hx).1) (badq_no (single_mem hx).2).1) (by have := single_short g; omega)
  rwa [show (singleP s).any (fun x => !safeB k.vars x) = !(singleP s).all (safeB k.vars) by rw [List.not_all_eq_any_not]] at this
theorem cycw_p (k : KN) (q : PR) (g : Good k q) (R : AV) (hR : R = stepsA (cycW k q)) (p : PR) (hlast : Pure Tryd.prog gsQ 16 [cellsR p, AU8 13] (.tp [cellsR q, AB (q.kind == 13)])) : Pure Tryd.prog gsQ 18 [encN k, cellsR p] R := by
  by_cases h13 : q.kind = 13
  case neg =>
    have hb : (q.kind == 13) = false := beq_eq_false_iff_ne.2 h13
    rw [hb] at hlast
    rw [cycW, if_neg (fun h => h13 h.1)] at hR
    subst hR
    refine Pure.of (S := tt) (fn := Tryd.f18) (n := 68) tt_ok Tryd.func18 rfl rfl rfl rfl fun w0 h0 F hgs => ?_
    (repeat first|refine A.s rfl ?_|refine A.r rfl rfl ?_|refine A.b rfl fun bx=>?_)
    refine A.c rfl hlast .refl ?_
    (repeat first|refine A.s rfl ?_|refine A.w rfl rfl ?_); refine A.ret1 (Λ' := []) rfl rfl rfl (List.nil_sublist _) ⟨?_, rfl⟩; exact .nil
  have hb : (q.kind == 13) = true := beq_iff_eq.2 h13
  rw [hb] at hlast
  obtain ⟨x, y, hx, hy⟩ := kind_13 g.kind h13
  have gy : Good k y := g.l (by rw [hy]; exact List.mem_cons_self ..)
  have hx0 : (encKl q.e)[(0 : Int).toNat]? = some (encK x) := encKl_at (by rw [hx]; rfl)
  have hy0 : (encRl q.l)[(0 : Int).toNat]? = some (encR y) := encRl_at (by rw [hy]; rfl)
  have how : oneW q = (x.kind == 1 && x.n == 1) := by unfold oneW; rw [hx]
  have hsw : stepsW q = if y.kind = 9 then y.l else q.l := by unfold stepsW; rw [hy]
  cases h1 : (x.kind == 1) with
  | false =>
    rw [cycW, if_neg (fun h => by have := h.2.1; rw [how, h1] at this; cases this)] at hR
    subst hR
    refine Pure.of (S := tt) (fn := Tryd.f18) (n := 68) tt_ok Tryd.func18 rfl rfl rfl rfl fun w0 h0 F hgs => ?_
    (repeat first|refine A.s rfl ?_|refine A.r rfl rfl ?_|refine A.b rfl fun bx=>?_)
    refine A.c rfl hlast .refl ?_
    (repeat first|refine A.s rfl ?_|refine A.r rfl rfl ?_|refine A.w rfl rfl ?_)
    refine A.x rfl (by decide) hx0 (encK_eq x) rfl ?_
    (repeat refine A.s rfl ?_)
    refine A.valE 25 rfl (x' := AB true) (ab_eq (by show (!(x.kind == 1)) = true; rw [h1]; rfl)) ?_
    (repeat refine A.s rfl ?_); refine A.ret1 (Λ' := []) rfl rfl rfl (List.nil_sublist _) ⟨?_, rfl⟩; exact .nil
  | true =>
  cases h2 : (x.n == 1) with
  | false =>
    rw [cycW, if_neg (fun h => by have := h.2.1; rw [how, h1, h2] at this; cases this)] at hR
    subst hR
    refine Pure.of (S := tt) (fn := Tryd.f18) (n := 68) tt_ok Tryd.func18 rfl rfl rfl rfl fun w0 h0 F hgs => ?_
    (repeat first|refine A.s rfl ?_|refine A.r rfl rfl ?_|refine A.b rfl fun bx=>?_)
    refine A.c rfl hlast .refl ?_
    (repeat first|refine A.s rfl ?_|refine A.r rfl rfl ?_|refine A.w rfl rfl ?_)
    refine A.x rfl (by decide) hx0 (encK_eq x) rfl ?_
    (repeat refine A.s rfl ?_)
    refine A.valE 25 rfl (x' := AB false) (ab_eq (by show (!(x.kind == 1)) = false; rw [h1]; rfl)) ?_
    (repeat first|refine A.s rfl ?_|refine A.r rfl rfl ?_)
    refine A.x rfl (by decide) hx0 (encK_eq x) rfl ?_
    (repeat refine A.s rfl ?_)
    refine A.valE 32 rfl (x' := AB true) (ab_eq (by show (!(x.n == 1)) = true; rw [h2]; rfl)) ?_
    (repeat refine A.s rfl ?_); refine A.ret1 (Λ' := []) rfl rfl rfl (List.nil_sublist _) ⟨?_, rfl⟩; exact .nil
  | true =>
  rw [h1, h2, Bool.true_and] at how
  have hR : R = stepsA (if (stepsW q).all (goodS k) = true then (stepsW q).map singleP else []) := by
    rw [hR, cycW]
    by_cases ha : (stepsW q).all (goodS k) = true
    · rw [if_pos ⟨h13, how, ha⟩, if_pos ha]
    · rw [if_neg (fun h => ha h.2.2), if_neg ha]
  by_cases h9 : y.kind = 9
  · have hb9 : (y.kind == 9) = true := beq_iff_eq.2 h9
    rw [hsw, if_pos h9] at hR
    have hgS : ∀ s, s ∈ y.l → Good k s := fun s hs => gy.l hs
    have hsl := gy.short
    refine Exists.elim (show ∃ S, S = y.l from ⟨_, rfl⟩) fun S hS => ?_
    rw [← hS] at hR hgS hsl
    refine Pure.of (S := tt) (fn := Tryd.f18) (n := 68) tt_ok Tryd.func18 rfl rfl rfl rfl fun w0 h0 F hgs => ?_
    (repeat first|refine A.s rfl ?_|refine A.r rfl rfl ?_|refine A.b rfl fun bx=>?_)
    refine A.freeze 2 (sz := 11) rfl rfl rfl ?_
    refine A.c rfl hlast .refl ?_
    (repeat first|refine A.s rfl ?_|refine A.r rfl rfl ?_|refine A.w rfl rfl ?_)
    refine A.x rfl (by decide) hx0 (encK_eq x) rfl ?_
    (repeat refine A.s rfl ?_)
    refine A.valE 25 rfl (x' := AB false) (ab_eq (by show (!(x.kind == 1)) = false; rw [h1]; rfl)) ?_
    (repeat first|refine A.s rfl ?_|refine A.r rfl rfl ?_)
    refine A.x rfl (by decide) hx0 (encK_eq x) rfl ?_
    (repeat refine A.s rfl ?_)
    refine A.valE 32 rfl (x' := AB false) (ab_eq (by show (!(x.n == 1)) = false; rw [h2]; rfl)) ?_
    (repeat first|refine A.s rfl ?_|refine A.r rfl rfl ?_)
    refine A.x rfl (by decide) hy0 (encR_eq y) rfl ?_
    (repeat refine A.s rfl ?_)
    refine A.valE 40 rfl (x' := AB true) (ab_eq hb9) ?_
    (repeat first|refine A.s rfl ?_|refine A.r rfl rfl ?_)
    refine A.x rfl (by decide) hy0 (encR_eq y) rfl ?_
    (repeat refine A.s rfl ?_)
    refine A.valE 46 rfl (x' := rsA S) (by rw [hS]) ?_
    refine A.valE 47 rfl (x' := AI (S.length : Nat)) (ai_eq (by rw [encRl_len, hS])) ?_
    refine A.nilTail 4 1 rfl ?_
    refine A.keep [2, 4, 46, 47, 48] rfl ?_
    refine A.loopP (ι := Nat × Value) (fun q => (⟨[(2, .pe 11 (encN k)), (4, .sl 1 (((S.take q.1).map singleP).map rsA) (some q.2)), (46, rsA S), (47, AI (S.length : Nat)), (48, AI (q.1 : Nat))], []⟩, [.tail 1 q.2, .box _ _])) (fun q => q.1 ≤ S.length ∧ (S.take q.1).all (goodS k) = true) (fun q => S.length - q.1) (0, .slice none 0 0) ⟨Nat.zero_le _, rfl⟩ rfl fun q hi ih => ?_
    obtain ⟨i, z⟩ := q
    obtain ⟨hi1, hi2⟩ := hi
    simp only at hi1 hi2
    (repeat refine A.s rfl ?_)
    refine A.cond rfl (fun hc => ?_) (fun hc => ?_)
    · have hc : i < S.length := by simpa using hc
      refine Exists.elim (at_exN (l := S) (i := i) hc) fun s hs => ?_
      have gs := hgS s (List.mem_of_getElem? hs)
      have hsing := (single_p s gs.len).any (gs := gsQ)
      have huns := unsafe_p k s gs
      have htk : S.take (i + 1) = S.take i ++ [s] := by rw [List.take_add_one, hs]; rfl
      have hbad : goodS k s = false → R = stepsA [] := fun h => by
        have : S.all (goodS k) = false := by
          cases ha : S.all (goodS k) with
          | false => rfl
          | true => rw [List.all_eq_true] at ha; rw [ha s (List.mem_of_getElem? hs)] at h; cases h
        rw [hR, if_neg (by rw [this]; simp)]
      refine Exists.elim (show ∃ sm, sm = singleP s from ⟨_, rfl⟩) fun sm hsome => ?_
      have hshort := single_short gs
      rw [← hsome] at hsing huns hshort
      (repeat refine A.s rfl ?_)
      refine A.x rfl (by show (0 : Int) ≤ (i : Nat); omega) (encRl_at hs) (encR_eq s) rfl ?_
      (repeat first|refine A.s rfl ?_|refine A.r rfl rfl ?_|refine A.w rfl rfl ?_|refine A.b rfl fun bx=>?_)
      refine A.c rfl hsing .refl ?_
      (repeat refine A.s rfl ?_)
      refine A.valE 57 rfl (x' := AB sm.isEmpty) (ab_eq (by rw [encRl_len]; exact isEmpty_eq sm)) ?_
      cases hem : sm.isEmpty with
      | true =>
        rw [hbad (by rw [goodS, ← hsome, hem]; rfl)]
        (repeat refine A.s rfl ?_); refine A.ret1 (Λ' := []) rfl rfl rfl (List.nil_sublist _) ⟨?_, rfl⟩; exact .nil
      | false =>
      (repeat refine A.s rfl ?_)
      refine A.c rfl huns .refl ?_
      (repeat refine A.s rfl ?_)
      cases hall : sm.all (safeB k.vars) with
      | false =>
        rw [hbad (by rw [goodS, ← hsome, hem, hall]; rfl)]
        refine A.valE 61 rfl (x' := AB true) (ab_eq rfl) ?_
        (repeat refine A.s rfl ?_); refine A.ret1 (Λ' := []) rfl rfl rfl (List.nil_sublist _) ⟨?_, rfl⟩; exact .nil
      | true =>
        refine A.valE 61 rfl (x' := AB false) (ab_eq rfl) ?_
        (repeat first|refine A.s rfl ?_|refine A.t rfl fun bl=>?_)
        refine A.entsEq (Λ' := [_, .tail ty38.size z, _]) rfl ?_
        refine A.append rfl rfl rfl rfl rfl rfl rfl rfl rfl rfl rfl rfl rfl rfl (by show ((((S.take i).map singleP).map rsA).length + 1) * 1 ≤ _; rw [List.length_map, List.length_map, List.length_take]; omega) fun z' => ?_
        (repeat refine A.s rfl ?_)
        refine A.valE 4 rfl (x' := .sl 1 (((S.take (i + 1)).map singleP).map rsA) (some z')) (by rw [htk]; simp only [List.map_append, List.map_cons, List.map_nil, ← hsome]; rfl) ?_
        refine A.valE 48 rfl (x' := AI ((i + 1 : Nat) : Int)) (inc_eq i (by omega)) ?_
        refine A.less (List.Sublist.cons_cons _ (List.Sublist.cons _ (List.Sublist.refl _))) ?_
        refine A.sub (by repeat (first | exact trivial | refine ⟨⟨_, rfl, .refl⟩, ?_⟩)) (ih (i + 1, z') ⟨by show i + 1 ≤ _; omega, by show (S.take (i + 1)).all _ = true; rw [htk, List.all_append, hi2, List.all_cons, List.all_nil, goodS, ← hsome, hem, hall]; rfl⟩ (by show _ - (i + 1) < _ - i; omega))
    have hc : ¬ i < S.length := by simpa using hc
    have hil : i = S.length := by omega
    rw [hil, List.take_length] at hi2
    rw [if_pos hi2] at hR
    rw [hR]
    (repeat refine A.s rfl ?_); refine A.ret1 (Λ' := []) rfl rfl rfl (List.nil_sublist _) ⟨?_, rfl⟩
    rw [hil, List.take_length]
    exact .own .refl
  · have hb9 : (y.kind == 9) = false := beq_eq_false_iff_ne.2 h9
    rw [hsw, if_neg h9] at hR
    have hgS : ∀ s, s ∈ q.l → Good k s := fun s hs => g.l hs
    have hsl := g.short
    refine Exists.elim (show ∃ S, S = q.l from ⟨_, rfl⟩) fun S hS => ?_
    rw [← hS] at hR hgS hsl
    refine Pure.of (S := tt) (fn := Tryd.f18) (n := 68) tt_ok Tryd.func18 rfl rfl rfl rfl fun w0 h0 F hgs => ?_
    (repeat first|refine A.s rfl ?_|refine A.r rfl rfl ?_|refine A.b rfl fun bx=>?_)
    refine A.freeze 2 (sz := 11) rfl rfl rfl ?_
    refine A.c rfl hlast .refl ?_
    (repeat first|refine A.s rfl ?_|refine A.r rfl rfl ?_|refine A.w rfl rfl ?_)
    refine A.x rfl (by decide) hx0 (encK_eq x) rfl ?_
    (repeat refine A.s rfl ?_)
    refine A.valE 25 rfl (x' := AB false) (ab_eq (by show (!(x.kind == 1)) = false; rw [h1]; rfl)) ?_
    (repeat first|refine A.s rfl ?_|refine A.r rfl rfl ?_)
    refine A.x rfl (by decide) hx0 (encK_eq x) rfl ?_
    (repeat refine A.s rfl ?_)
    refine A.valE 32 rfl (x' := AB false) (ab_eq (by show (!(x.n == 1)) = false; rw [h2]; rfl)) ?_
    (repeat first|refine A.s rfl ?_|refine A.r rfl rfl ?_)
    refine A.x rfl (by decide) hy0 (encR_eq y) rfl ?_
    (repeat refine A.s rfl ?_)
    refine A.valE 40 rfl (x' := AB false) (ab_eq hb9) ?_
    (repeat refine A.s rfl ?_)
    refine A.valE 46 rfl (x' := rsA S) (by rw [hS]) ?_
    refine A.valE 47 rfl (x' := AI (S.length : Nat)) (ai_eq (by rw [encRl_len, hS])) ?_
    refine A.nilTail 4 1 rfl ?_
    refine A.keep [2, 4, 46, 47, 48] rfl ?_
    refine A.loopP (ι := Nat × Value) (fun q => (⟨[(2, .pe 11 (encN k)), (4, .sl 1 (((S.take q.1).map singleP).map rsA) (some q.2)), (46, rsA S), (47, AI (S.length : Nat)), (48, AI (q.1 : Nat))], []⟩, [.tail 1 q.2, .box _ _])) (fun q => q.1 ≤ S.length ∧ (S.take q.1).all (goodS k) = true) (fun q => S.length - q.1) (0, .slice none 0 0) ⟨Nat.zero_le _, rfl⟩ rfl fun q hi ih => ?_
    obtain ⟨i, z⟩ := q
    obtain ⟨hi1, hi2⟩ := hi
    simp only at hi1 hi2
    (repeat refine A.s rfl ?_)
    refine A.cond rfl (fun hc => ?_) (fun hc => ?_)
    · have hc : i < S.length := by simpa using hc
      refine Exists.elim (at_exN (l := S) (i := i) hc) fun s hs => ?_
      have gs := hgS s (List.mem_of_getElem? hs)
      have hsing := (single_p s gs.len).any (gs := gsQ)
      have huns := unsafe_p k s gs
      have htk : S.take (i + 1) = S.take i ++ [s] := by rw [List.take_add_one, hs]; rfl
      have hbad : goodS k s = false → R = stepsA [] := fun h => by
        have : S.all (goodS k) = false := by
          cases ha : S.all (goodS k) with
          | false => rfl
          | true => rw [List.all_eq_true] at ha; rw [ha s (List.mem_of_getElem? hs)] at h; cases h
        rw [hR, if_neg (by rw [this]; simp)]
      refine Exists.elim (show ∃ sm, sm = singleP s from ⟨_, rfl⟩) fun sm hsome => ?_
      have hshort := single_short gs
      rw [← hsome] at hsing huns hshort
      (repeat refine A.s rfl ?_)
      refine A.x rfl (by show (0 : Int) ≤ (i : Nat); omega) (encRl_at hs) (encR_eq s) rfl ?_
      (repeat first|refine A.s rfl ?_|refine A.r rfl rfl ?_|refine A.w rfl rfl ?_|refine A.b rfl fun bx=>?_)
      refine A.c rfl hsing .refl ?_
      (repeat refine A.s rfl ?_)
      refine A.valE 57 rfl (x' := AB sm.isEmpty) (ab_eq (by rw [encRl_len]; exact isEmpty_eq sm)) ?_
      cases hem : sm.isEmpty with
      | true =>
        rw [hbad (by rw [goodS, ← hsome, hem]; rfl)]
        (repeat refine A.s rfl ?_); refine A.ret1 (Λ' := []) rfl rfl rfl (List.nil_sublist _) ⟨?_, rfl⟩; exact .nil
      | false =>
      (repeat refine A.s rfl ?_)
      refine A.c rfl huns .refl ?_
      (repeat refine A.s rfl ?_)
      cases hall : sm.all (safeB k.vars) with
      | false =>
        rw [hbad (by rw [goodS, ← hsome, hem, hall]; rfl)]
        refine A.valE 61 rfl (x' := AB true) (ab_eq rfl) ?_
        (repeat refine A.s rfl ?_); refine A.ret1 (Λ' := []) rfl rfl rfl (List.nil_sublist _) ⟨?_, rfl⟩; exact .nil
      | true =>
        refine A.valE 61 rfl (x' := AB false) (ab_eq rfl) ?_
        (repeat first|refine A.s rfl ?_|refine A.t rfl fun bl=>?_)
        refine A.entsEq (Λ' := [_, .tail ty38.size z, _]) rfl ?_
        refine A.append rfl rfl rfl rfl rfl rfl rfl rfl rfl rfl rfl rfl rfl rfl (by show ((((S.take i).map singleP).map rsA).length + 1) * 1 ≤ _; rw [List.length_map, List.length_map, List.length_take]; omega) fun z' => ?_
        (repeat refine A.s rfl ?_)
        refine A.valE 4 rfl (x' := .sl 1 (((S.take (i + 1)).map singleP).map rsA) (some z')) (by rw [htk]; simp only [List.map_append, List.map_cons, List.map_nil, ← hsome]; rfl) ?_
        refine A.valE 48 rfl (x' := AI ((i + 1 : Nat) : Int)) (inc_eq i (by omega)) ?_
        refine A.less (List.Sublist.cons_cons _ (List.Sublist.cons _ (List.Sublist.refl _))) ?_
        refine A.sub (by repeat (first | exact trivial | refine ⟨⟨_, rfl, .refl⟩, ?_⟩)) (ih (i + 1, z') ⟨by show i + 1 ≤ _; omega, by show (S.take (i + 1)).all _ = true; rw [htk, List.all_append, hi2, List.all_cons, List.all_nil, goodS, ← hsome, hem, hall]; rfl⟩ (by show _ - (i + 1) < _ - i; omega))
    have hc : ¬ i < S.length := by simpa using hc
    have hil : i = S.length := by omega
    rw [hil, List.take_length] at hi2
    rw [if_pos hi2] at hR
    rw [hR]
    (repeat refine A.s rfl ?_); refine A.ret1 (Λ' := []) rfl rfl rfl (List.nil_sublist _) ⟨?_, rfl⟩
    rw [hil, List.take_length]
    exact .own .refl
theorem branch_p (k : KN) (p : PR) (g : Good k p) : Pure Tryd.prog gsQ 18 [encN k, cellsR p] (stepsA (cycP k p)) :=
  cycw_p k (lastR p) g.last _ rfl p (last_p p 13 g.len).any
end Go.Proofs.YtgmeahcclogfmaaDoor
/-!
  Chapter 23: sets of channels as words, networks, the law's and the reference's small functions.
-/
namespace Go.Proofs.YtgmeahcclogfmaaDoor
open Go Go.Tp
set_option linter.unusedVariables false
set_option linter.unusedSimpArgs false
set_option maxRecDepth 100000
set_option maxHeartbeats 4000000
/-! ### words of 64 bits -/
abbrev W64 := BitVec 64
abbrev U64 (b : W64) : AV := .v (.int .u64 (b.toNat : Int))
theorem u64_eq {a : Int} {b : W64} (h : a = b.toNat) : AV.v (.int .u64 a) = U64 b := by rw [h]
theorem wrap_bv (b : W64) : IntKind.u64.wrap (b.toNat : Int) = b.toNat := by
  have := b.isLt
  rw [wu64_eq]; omega
theorem ofInt_bv (b : W64) : BitVec.ofInt 64 (b.toNat : Int) = b := by
  apply BitVec.eq_of_toNat_eq; simp
theorem uand (a b : W64) : bitsOf .and .u64 (a.toNat : Int) (b.toNat : Int) = ((a &&& b).toNat : Int) := by
  show IntKind.u64.wrap ((BitVec.ofInt 64 (a.toNat : Int) &&& BitVec.ofInt 64 (b.toNat : Int)).toNat : Int) = _
  rw [ofInt_bv, ofInt_bv]; exact wrap_bv _
theorem uor (a b : W64) : bitsOf .or .u64 (a.toNat : Int) (b.toNat : Int) = ((a ||| b).toNat : Int) := by
  show IntKind.u64.wrap ((BitVec.ofInt 64 (a.toNat : Int) ||| BitVec.ofInt 64 (b.toNat : Int)).toNat : Int) = _
  rw [ofInt_bv, ofInt_bv]; exact wrap_bv _
theorem uandn (a b : W64) : bitsOf .andNot .u64 (a.toNat : Int) (b.toNat : Int) = ((a &&& ~~~b).toNat : Int) := by
  show IntKind.u64.wrap ((BitVec.ofInt 64 (a.toNat : Int) &&& ~~~BitVec.ofInt 64 (b.toNat : Int)).toNat : Int) = _
  rw [ofInt_bv, ofInt_bv]; exact wrap_bv _
def bitW (d : Nat) : W64 := 1#64 <<< d
theorem ushl (d : Nat) (h : d < 64) : arV .shl .u64 1 (d : Int) = ((bitW d).toNat : Int) := by
  simp only [arV, show IntKind.u64.bits = 64 from rfl, Int.toNat_natCast, Nat.min_eq_left (Nat.le_of_lt h), bitW]
  rw [wu64_eq, BitVec.toNat_shiftLeft]
  simp [Nat.shiftLeft_eq]
theorem ushr (a : W64) (d : Nat) (h : d < 64) : arV .shr .u64 (a.toNat : Int) (d : Int) = ((a >>> d).toNat : Int) := by
  simp only [arV, show IntKind.u64.bits = 64 from rfl, Int.toNat_natCast, Nat.min_eq_left (Nat.le_of_lt h)]
  rw [BitVec.toNat_ushiftRight, Nat.shiftRight_eq_div_pow]
  have h2 : (0 : Int) ≤ 2 ^ d := Int.le_of_lt (Int.pow_pos (by omega))
  rw [Int.fdiv_eq_ediv_of_nonneg _ h2]
  push_cast
  rfl
theorem bit_test (a : W64) (d : Nat) : ((((a >>> d) &&& 1#64).toNat : Int) == 1) = a.getLsbD d := by
  have h1 : ((a >>> d) &&& 1#64).toNat = (a.toNat >>> d) % 2 := by
    rw [BitVec.toNat_and, BitVec.toNat_ushiftRight]; simp [Nat.and_one_is_mod]
  rw [h1, Bool.eq_iff_iff]
  simp only [beq_iff_eq, BitVec.getLsbD, Nat.testBit, Nat.and_comm 1, Nat.and_one_is_mod]
  have : a.toNat >>> d % 2 < 2 := Nat.mod_lt _ (by omega)
  simp only [bne_iff_ne]
  omega
theorem bitW_get (d i : Nat) (hd : d < 64) : (bitW d).getLsbD i = decide (i = d) := by
  simp only [bitW, BitVec.getLsbD_shiftLeft]
  rw [Bool.eq_iff_iff]
  simp
  omega
/-! ### arrays of 64 -/
def upd {α : Type} (g : Nat → α) (x : Nat) (v : α) : Nat → α := fun i => if i = x then v else g i
abbrev arrL (f : Nat → AV) : List AV := (List.range 64).map f
theorem range_at {α : Type} {n i : Nat} (f : Nat → α) (h : i < n) : ((List.range n).map f)[i]? = some (f i) := by
  rw [List.getElem?_map, List.getElem?_range h]; rfl
theorem range_set {α β : Type} {n : Nat} (f : α → β) (g : Nat → α) (x : Nat) (v : α) : ((List.range n).map fun i => f (g i)).set x (f v) = (List.range n).map fun i => f (upd g x v i) := by
  apply List.ext_getElem?
  intro i
  rw [List.getElem?_set]
  by_cases h : i < n
  · rw [range_at _ h, List.length_map, List.length_range]
    by_cases hx : x = i
    · subst hx; simp [upd, h]
    · rw [if_neg hx, range_at _ h, upd, if_neg (fun e => hx e.symm)]
  · rw [List.getElem?_eq_none (by simp; omega), List.getElem?_eq_none (by simp; omega)]
    simp; omega
abbrev setL (g : Nat → W64) : List AV := arrL fun i => U64 (g i)
abbrev intL (g : Nat → Int) : List AV := arrL fun i => AI (g i)
theorem off1 (x : Nat) : 0 + (x : Int).toNat * 1 = x := by simp
theorem arr_len (f : Nat → AV) : (arrL f).length = 64 := by rw [List.length_map, List.length_range]
theorem set_one (g : Nat → W64) : oneA (setL g) = true := oneA_map fun _ => rfl
theorem int_one (g : Nat → Int) : oneA (intL g) = true := oneA_map fun _ => rfl
/-! ### networks -/
abbrev Procs := List (List (List Int))
abbrev rowI (l : List Int) : AV := .sl 1 (l.map AI) none
abbrev procA (p : List (List Int)) : AV := .sl 1 (p.map rowI) none
abbrev procsA (c : Procs) : AV := .sl 1 (c.map procA) none
abbrev netA (n : Int) (c : Procs) : AV := .ag [AI n, procsA c]
def sizeP (p : List (List Int)) : Nat := (p.map fun s => 1 + s.length).sum
def sizeN (c : Procs) : Nat := (c.map sizeP).sum
theorem sizeP_cons (s : List Int) (p : List (List Int)) : sizeP (s :: p) = 1 + s.length + sizeP p := by simp [sizeP]
theorem sizeN_cons (p : List (List Int)) (c : Procs) : sizeN (p :: c) = sizeP p + sizeN c := by simp [sizeN]
structure Small (c : Procs) : Prop where
  procs : c.length ≤ 20
  steps : ∀ p, p ∈ c → p.length ≤ 70
  size : sizeN c ≤ 200
theorem sizeP_mem {p : List (List Int)} {s : List Int} (h : s ∈ p) : s.length < sizeP p + 1 := by
  induction p with
  | nil => cases h
  | cons x p ih => rw [sizeP_cons]; rcases List.mem_cons.1 h with rfl | h; omega; have := ih h; omega
theorem sizeN_mem {c : Procs} {p : List (List Int)} (h : p ∈ c) : sizeP p ≤ sizeN c := by
  induction c with
  | nil => cases h
  | cons x c ih => rw [sizeN_cons]; rcases List.mem_cons.1 h with rfl | h; omega; have := ih h; omega
theorem Small.row {c : Procs} (h : Small c) {p : List (List Int)} {s : List Int} (hp : p ∈ c) (hs : s ∈ p) : s.length ≤ 200 := by
  have h1 := sizeP_mem hs
  have h2 := sizeN_mem hp
  have h3 := h.size
  omega
end Go.Proofs.YtgmeahcclogfmaaDoor
