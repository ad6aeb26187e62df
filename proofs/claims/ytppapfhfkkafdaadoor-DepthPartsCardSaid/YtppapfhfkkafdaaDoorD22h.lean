/-
  Chapter 22: trees the laws build.
-/
import Derived.Test.YtppapfhfkkafdaaDoorD22g

namespace Go.Proofs.YtppapfhfkkafdaaDoor
open Go Go.Tp
set_option linter.unusedVariables false
set_option linter.unusedSimpArgs false
set_option maxRecDepth 100000
set_option maxHeartbeats 4000000



def numE (n : Int) : KE := ⟨1, 0, 0, n, 0, []⟩
def numC (n : Int) : List Value := [.int .u8 1, .int .u8 0, .int .u8 0, .int .i32 n, .int .i64 0, .slice none 0 0]
theorem RK_num (h : GH) {n : Int} (hn : i32 n) : RK h (numE n) (numC n) := by
  simp only [numE, RK, numC]
  exact ⟨⟨⟨by decide, by decide⟩, ⟨by decide, by decide⟩, ⟨by decide, by decide⟩, hn, ⟨by decide, by decide⟩⟩, none, 0, rfl, Nat.le_refl _, fun g => (g rfl).elim⟩
theorem number_does (w0 : World) (h : GH) (L : List Ent) (n : Int) : Does Tryd.prog w0 22 [.int .i32 n] h L (Is (.agg ⟨numC n⟩) h L) := by
  refine Does.is (Does.of_V (cfg w0 22 Tryd.f22 5 (RIs (.agg ⟨numC n⟩) h L) Tryd.func22) rfl rfl rfl rfl ?_)
  (repeat (first | refine V.step rfl ?_ | refine V.load rfl rfl rfl rfl rfl rfl ?_ | refine V.store rfl rfl rfl rfl rfl rfl rfl ?_ | refine V.condT rfl ?_ | refine V.condF rfl ?_)); refine V.alloc rfl rfl rfl rfl rfl rfl fun bx => ?_; (repeat (first | refine V.step rfl ?_ | refine V.load rfl rfl rfl rfl rfl rfl ?_ | refine V.store rfl rfl rfl rfl rfl rfl rfl ?_ | refine V.condT rfl ?_ | refine V.condF rfl ?_)); refine V.retC rfl rfl rfl rfl rfl ⟨rfl, GH.le_refl _, (by repeat (first | exact List.Sublist.refl _ | apply List.Sublist.cons_cons | apply List.Sublist.cons))⟩
def twoE (o : Int) (a b : KE) : KE := ⟨5, o, 0, 0, 0, [a, b]⟩
theorem atH_append {h : GH} {b o : Nat} {l r : List Value} (g : atH h b o (l ++ r)) : atH h b o l ∧ atH h b (o + l.length) r := by
  refine ⟨fun i v hv => g i v ?_, fun i v hv => ?_⟩
  · have hi : i < l.length := by
      rcases Nat.lt_or_ge i l.length with g | g
      · exact g
      · rw [List.getElem?_eq_none g] at hv; cases hv
    rw [List.getElem?_append_left hi]; exact hv
  · have := g (l.length + i) v (by
      rw [List.getElem?_append_right (Nat.le_add_right _ _), Nat.add_sub_cancel_left]; exact hv)
    rwa [← Nat.add_assoc] at this
def twoC (o : Int) (c : Nat) : List Value := [.int .u8 5, .int .u8 o, .int .u8 0, .int .i32 0, .int .i64 0, .slice (some ⟨c, 0, none⟩) 2 2]
def isTwo (o : Int) (a b : KE) : Value → GH → Prop := fun v h' => ∃ c, v = .agg ⟨twoC o c⟩ ∧ RK h' (twoE o a b) (twoC o c)
theorem two_does (w0 : World) (h : GH) (L : List Ent) (o : Int) (ho : u8 o) (a b : KE) (ca cb : List Value) (ha : RK h a ca) (hb : RK h b cb) :
    Does Tryd.prog w0 17 [.int .u8 o, .agg ⟨ca⟩, .agg ⟨cb⟩] h L (Res h L (isTwo o a b)) := by
  have ha' := ha
  have hb' := hb
  obtain ⟨ak, ao, at', an, av, aa, am, ac, rfl⟩ := RK_c ha
  obtain ⟨bk, bo, bt, bn, bv, ba, bm, bc, rfl⟩ := RK_c hb
  refine Does.res (Does.of_V (cfg w0 17 Tryd.f17 12 (RRes h L (isTwo o a b)) Tryd.func17) rfl rfl rfl rfl ?_)
  (repeat (first | refine V.step rfl ?_ | refine V.load rfl rfl rfl rfl rfl rfl ?_ | refine V.store rfl rfl rfl rfl rfl rfl rfl ?_ | refine V.condT rfl ?_ | refine V.condF rfl ?_)); refine V.box rfl rfl rfl rfl rfl rfl fun be => ?_; (repeat (first | refine V.step rfl ?_ | refine V.load rfl rfl rfl rfl rfl rfl ?_ | refine V.store rfl rfl rfl rfl rfl rfl rfl ?_ | refine V.condT rfl ?_ | refine V.condF rfl ?_)); refine V.box rfl rfl rfl rfl rfl rfl fun be2 => ?_; (repeat (first | refine V.step rfl ?_ | refine V.load rfl rfl rfl rfl rfl rfl ?_ | refine V.store rfl rfl rfl rfl rfl rfl rfl ?_ | refine V.condT rfl ?_ | refine V.condF rfl ?_)); refine V.alloc rfl rfl rfl rfl rfl rfl fun bx => ?_; (repeat (first | refine V.step rfl ?_ | refine V.load rfl rfl rfl rfl rfl rfl ?_ | refine V.store rfl rfl rfl rfl rfl rfl rfl ?_ | refine V.condT rfl ?_ | refine V.condF rfl ?_))
  refine V.litP rfl rfl rfl rfl rfl rfl fun c1 h2 hle2 hat2 => ?_; (repeat (first | refine V.step rfl ?_ | refine V.load rfl rfl rfl rfl rfl rfl ?_ | refine V.store rfl rfl rfl rfl rfl rfl rfl ?_ | refine V.condT rfl ?_ | refine V.condF rfl ?_))
  refine V.retC rfl rfl rfl rfl rfl ⟨hle2, (by repeat (first | exact List.Sublist.refl _ | apply List.Sublist.cons_cons | apply List.Sublist.cons)), _, rfl, ?_⟩
  have hat : atH h2 c1 0 ([.int .u8 ak, .int .u8 ao, .int .u8 at', .int .i32 an, .int .i64 av, .slice aa am ac] ++ [.int .u8 bk, .int .u8 bo, .int .u8 bt, .int .i32 bn, .int .i64 bv, .slice ba bm bc]) := hat2
  obtain ⟨q1, q2⟩ := atH_append hat
  simp only [twoE, twoC, RK]
  refine ⟨⟨⟨by decide, by decide⟩, ho, ⟨by decide, by decide⟩, ⟨by decide, by decide⟩, ⟨by decide, by decide⟩⟩, _, _, rfl, Nat.le_refl _, fun _ => ⟨c1, 0, rfl, ?_⟩⟩
  simp only [RKl]
  exact ⟨⟨_, q1, RK.mono hle2 ha'⟩, ⟨_, q2, RK.mono hle2 hb'⟩, trivial⟩

def e1 : KE := twoE 1 (numE 1) (numE 2)
def e34 : KE := twoE 1 (numE 3) (numE 4)
def e2 : KE := twoE 3 e1 e34
def e3 : KE := twoE 2 e2 e2
theorem in32 {n : Int} (h : -2147483648 ≤ n ∧ n ≤ 2147483647) : i32 n := h
def YH : Nat → List Value → Value → GH → Prop := yl [(1, fun _ v _ => v = .agg ⟨numC 3⟩), (2, fun _ v _ => v = .agg ⟨numC 4⟩), (3, fun _ v h' => isTwo 1 (numE 3) (numE 4) v h'), (4, fun _ v h' => isTwo 3 e1 e34 v h')]
theorem eqd {w0 : World} {f : FuncId} {args : List Value} {h : GH} {L : List Ent} {m n : Int} (e : m = n) (hf : Does Tryd.prog w0 f args h L (Is (.int .i64 m) h L)) : Does Tryd.prog w0 f args h L (Is (.int .i64 n) h L) := by subst e; exact hf
theorem eqb {w0 : World} {f : FuncId} {args : List Value} {h : GH} {L : List Ent} {m n : Bool} (e : m = n) (hf : Does Tryd.prog w0 f args h L (Is (.bool m) h L)) : Does Tryd.prog w0 f args h L (Is (.bool n) h L) := by subst e; exact hf
theorem head_does (w0 : World) (h : GH) (hq : atH h 0 0 quietL) (L : List Ent) : Does Tryd.prog w0 13 [] h L (Res h L (fun v _ => v = .bool true)) := by
  refine Does.res (Does.of_V (cfg w0 13 Tryd.f13 54 (RRes h L (fun v _ => v = .bool true)) Tryd.func13) rfl rfl rfl rfl ?_)
  (repeat (first | refine V.step rfl ?_ | refine V.load rfl rfl rfl rfl rfl rfl ?_ | refine V.store rfl rfl rfl rfl rfl rfl rfl ?_ | refine V.condT rfl ?_ | refine V.condF rfl ?_)); refine V.callIs rfl rfl rfl rfl rfl rfl (number_does w0 h _ 1) ?_; refine V.callIs rfl rfl rfl rfl rfl rfl (number_does w0 h _ 2) ?_
  refine V.call rfl rfl rfl rfl rfl rfl (two_does w0 h _ 1 ⟨by decide, by decide⟩ (numE 1) (numE 2) _ _ (RK_num h ⟨by decide, by decide⟩) (RK_num h ⟨by decide, by decide⟩)) ?_
  rintro v1 h1 L1 ⟨rfl, hle1, c1, rfl, hr1⟩
  refine V.alloc rfl rfl rfl rfl rfl rfl fun bx => ?_; (repeat (first | refine V.step rfl ?_ | refine V.load rfl rfl rfl rfl rfl rfl ?_ | refine V.store rfl rfl rfl rfl rfl rfl rfl ?_ | refine V.condT rfl ?_ | refine V.condF rfl ?_))
  refine V.draw 6 [5, 0, 1, 2, 3, 4] noPubs YH (by kernel_rfl) (by kernel_rfl) ?_
  refine WE.alloc rfl rfl rfl rfl rfl rfl rfl rfl fun b9 => ?_
  (repeat (first | refine WE.step rfl ?_ | refine WE.load rfl rfl rfl rfl rfl rfl rfl ?_))
  refine WE.call rfl rfl rfl rfl rfl rfl rfl (fun L => (number_does w0 _ L 3).mono ?_) (fun v h2' y1 y2 y3 => ?_)
  · rintro v h' L' ⟨rfl, rfl, rfl⟩; exact ⟨rfl, GH.le_refl _, rfl⟩
  have y3 : v = .agg ⟨numC 3⟩ := y3
  subst y3
  refine WE.call rfl rfl rfl rfl rfl rfl rfl (fun L => (number_does w0 _ L 4).mono ?_) (fun v h3' y4 y5 y6 => ?_)
  · rintro v h' L' ⟨rfl, rfl, rfl⟩; exact ⟨rfl, GH.le_refl _, rfl⟩
  have y6 : v = .agg ⟨numC 4⟩ := y6
  subst y6
  refine WE.call rfl rfl rfl rfl rfl rfl rfl (fun L => (two_does w0 _ L 1 ⟨by decide, by decide⟩ (numE 3) (numE 4) _ _ (RK_num _ ⟨by decide, by decide⟩) (RK_num _ ⟨by decide, by decide⟩)).mono ?_) (fun v h4' y7 y8 y9 => ?_)
  · rintro v h' L' ⟨rfl, q1, q2⟩; exact ⟨rfl, q1, q2⟩
  obtain ⟨c2, rfl, hr2⟩ := (show isTwo 1 (numE 3) (numE 4) v h4' from y9)
  refine WE.call rfl rfl rfl rfl rfl rfl rfl (fun L => (two_does w0 _ L 3 ⟨by decide, by decide⟩ e1 e34 _ _ (RK.mono (GH.le_trans y2 (GH.le_trans y5 y8)) hr1) hr2).mono ?_) (fun v h5' z1 z2 z3 => ?_)
  · rintro v h' L' ⟨rfl, q1, q2⟩; exact ⟨rfl, q1, q2⟩
  obtain ⟨c3, rfl, hr3⟩ := (show isTwo 3 e1 e34 v h5' from z3)
  have hle5 := GH.le_trans hle1 (GH.le_trans y2 (GH.le_trans y5 (GH.le_trans y8 z2)))
  have hr1 := RK.mono (GH.le_trans y2 (GH.le_trans y5 (GH.le_trans y8 z2))) hr1
  clear y1 y4 y7 z1 y9 z3
  refine WE.nilC [_] (_ :: _ :: _) rfl rfl ?_
  (repeat (first | refine V.stepY rfl ?_ | refine V.loadY rfl rfl rfl rfl rfl rfl ?_ | refine V.store rfl rfl rfl rfl rfl rfl rfl ?_ | refine V.condT rfl ?_ | refine V.condF rfl ?_ | refine V.skip rfl rfl ?_ | refine V.skipU rfl rfl rfl ?_ | refine V.pickT rfl rfl rfl rfl rfl ?_ | refine V.pickF rfl rfl rfl rfl rfl ?_ | refine V.step rfl ?_ | refine V.load rfl rfl rfl rfl rfl rfl ?_))
  refine V.call rfl rfl rfl rfl rfl rfl (two_does w0 _ _ 2 ⟨by decide, by decide⟩ e2 e2 _ _ hr3 hr3) ?_
  rintro v6 h6 L6 ⟨rfl, hle6, c6, rfl, hr6⟩
  refine V.alloc rfl rfl rfl rfl rfl rfl fun bz => ?_; (repeat (first | refine V.stepY rfl ?_ | refine V.loadY rfl rfl rfl rfl rfl rfl ?_ | refine V.store rfl rfl rfl rfl rfl rfl rfl ?_ | refine V.condT rfl ?_ | refine V.condF rfl ?_ | refine V.skip rfl rfl ?_ | refine V.skipU rfl rfl rfl ?_ | refine V.pickT rfl rfl rfl rfl rfl ?_ | refine V.pickF rfl rfl rfl rfl rfl ?_ | refine V.step rfl ?_ | refine V.load rfl rfl rfl rfl rfl rfl ?_))
  have hq6 := hq.mono (GH.le_trans hle5 hle6)
  have hr3 := RK.mono hle6 hr3
  have hr1 := RK.mono hle6 hr1
  refine V.callIs rfl rfl rfl rfl rfl rfl (number_does w0 h6 _ 5) ?_
  refine V.callIs rfl rfl rfl rfl rfl rfl (eqd (n := 1) (by decide) (depth_does w0 h6 hq6 _ (numE 5) _ (RK_num _ ⟨by decide, by decide⟩))) ?_; (repeat (first | refine V.stepY rfl ?_ | refine V.loadY rfl rfl rfl rfl rfl rfl ?_ | refine V.store rfl rfl rfl rfl rfl rfl rfl ?_ | refine V.condT rfl ?_ | refine V.condF rfl ?_ | refine V.skip rfl rfl ?_ | refine V.skipU rfl rfl rfl ?_ | refine V.pickT rfl rfl rfl rfl rfl ?_ | refine V.pickF rfl rfl rfl rfl rfl ?_ | refine V.step rfl ?_ | refine V.load rfl rfl rfl rfl rfl rfl ?_))
  clear y3 y6
  refine V.callIs rfl rfl rfl rfl rfl rfl (eqd (n := 2) (by decide) (depth_does w0 h6 hq6 _ e1 _ hr1)) ?_; (repeat (first | refine V.stepY rfl ?_ | refine V.loadY rfl rfl rfl rfl rfl rfl ?_ | refine V.store rfl rfl rfl rfl rfl rfl rfl ?_ | refine V.condT rfl ?_ | refine V.condF rfl ?_ | refine V.skip rfl rfl ?_ | refine V.skipU rfl rfl rfl ?_ | refine V.pickT rfl rfl rfl rfl rfl ?_ | refine V.pickF rfl rfl rfl rfl rfl ?_ | refine V.step rfl ?_ | refine V.load rfl rfl rfl rfl rfl rfl ?_))
  refine V.callIs rfl rfl rfl rfl rfl rfl (eqd (n := 3) (by decide) (depth_does w0 h6 hq6 _ e2 _ hr3)) ?_; (repeat (first | refine V.stepY rfl ?_ | refine V.loadY rfl rfl rfl rfl rfl rfl ?_ | refine V.store rfl rfl rfl rfl rfl rfl rfl ?_ | refine V.condT rfl ?_ | refine V.condF rfl ?_ | refine V.skip rfl rfl ?_ | refine V.skipU rfl rfl rfl ?_ | refine V.pickT rfl rfl rfl rfl rfl ?_ | refine V.pickF rfl rfl rfl rfl rfl ?_ | refine V.step rfl ?_ | refine V.load rfl rfl rfl rfl rfl rfl ?_))
  refine V.callIs rfl rfl rfl rfl rfl rfl (eqd (n := 3) (by decide) (depth_does w0 h6 hq6 _ e3 _ hr6)) ?_; (repeat (first | refine V.stepY rfl ?_ | refine V.loadY rfl rfl rfl rfl rfl rfl ?_ | refine V.store rfl rfl rfl rfl rfl rfl rfl ?_ | refine V.condT rfl ?_ | refine V.condF rfl ?_ | refine V.skip rfl rfl ?_ | refine V.skipU rfl rfl rfl ?_ | refine V.pickT rfl rfl rfl rfl rfl ?_ | refine V.pickF rfl rfl rfl rfl rfl ?_ | refine V.step rfl ?_ | refine V.load rfl rfl rfl rfl rfl rfl ?_))
  refine V.callIs rfl rfl rfl rfl rfl rfl (eqd (n := 0) (by decide) (dtemps_does w0 h6 hq6 _ e2 _ hr3)) ?_; (repeat (first | refine V.stepY rfl ?_ | refine V.loadY rfl rfl rfl rfl rfl rfl ?_ | refine V.store rfl rfl rfl rfl rfl rfl rfl ?_ | refine V.condT rfl ?_ | refine V.condF rfl ?_ | refine V.skip rfl rfl ?_ | refine V.skipU rfl rfl rfl ?_ | refine V.pickT rfl rfl rfl rfl rfl ?_ | refine V.pickF rfl rfl rfl rfl rfl ?_ | refine V.step rfl ?_ | refine V.load rfl rfl rfl rfl rfl rfl ?_))
  refine V.callIs rfl rfl rfl rfl rfl rfl (eqd (n := 1) (by decide) (dtemps_does w0 h6 hq6 _ e3 _ hr6)) ?_; (repeat (first | refine V.stepY rfl ?_ | refine V.loadY rfl rfl rfl rfl rfl rfl ?_ | refine V.store rfl rfl rfl rfl rfl rfl rfl ?_ | refine V.condT rfl ?_ | refine V.condF rfl ?_ | refine V.skip rfl rfl ?_ | refine V.skipU rfl rfl rfl ?_ | refine V.pickT rfl rfl rfl rfl rfl ?_ | refine V.pickF rfl rfl rfl rfl rfl ?_ | refine V.step rfl ?_ | refine V.load rfl rfl rfl rfl rfl rfl ?_))
  refine V.callIs rfl rfl rfl rfl rfl rfl (eqb (n := false) (by decide) (dsafe_does w0 h6 hq6 _ e1 _ hr1)) ?_; (repeat (first | refine V.stepY rfl ?_ | refine V.loadY rfl rfl rfl rfl rfl rfl ?_ | refine V.store rfl rfl rfl rfl rfl rfl rfl ?_ | refine V.condT rfl ?_ | refine V.condF rfl ?_ | refine V.skip rfl rfl ?_ | refine V.skipU rfl rfl rfl ?_ | refine V.pickT rfl rfl rfl rfl rfl ?_ | refine V.pickF rfl rfl rfl rfl rfl ?_ | refine V.step rfl ?_ | refine V.load rfl rfl rfl rfl rfl rfl ?_))
  refine V.callIs rfl rfl rfl rfl rfl rfl (number_does w0 h6 _ 1) ?_
  refine V.callIs rfl rfl rfl rfl rfl rfl (number_does w0 h6 _ 2) ?_
  refine V.call rfl rfl rfl rfl rfl rfl (two_does w0 h6 _ 6 ⟨by decide, by decide⟩ (numE 1) (numE 2) _ _ (RK_num h6 ⟨by decide, by decide⟩) (RK_num h6 ⟨by decide, by decide⟩)) ?_
  rintro v7 h7 L7 ⟨rfl, hle7, c7, rfl, hr7⟩
  refine V.callIs rfl rfl rfl rfl rfl rfl (eqb (n := true) (by decide) (dsafe_does w0 h7 (hq6.mono hle7) _ (twoE 6 (numE 1) (numE 2)) _ hr7)) ?_; (repeat (first | refine V.stepY rfl ?_ | refine V.loadY rfl rfl rfl rfl rfl rfl ?_ | refine V.store rfl rfl rfl rfl rfl rfl rfl ?_ | refine V.condT rfl ?_ | refine V.condF rfl ?_ | refine V.skip rfl rfl ?_ | refine V.skipU rfl rfl rfl ?_ | refine V.pickT rfl rfl rfl rfl rfl ?_ | refine V.pickF rfl rfl rfl rfl rfl ?_ | refine V.step rfl ?_ | refine V.load rfl rfl rfl rfl rfl rfl ?_))
  refine V.ret1 rfl rfl rfl ⟨GH.le_trans hle5 (GH.le_trans hle6 hle7), (by repeat (first | exact List.Sublist.refl _ | apply List.Sublist.cons_cons | apply List.Sublist.cons)), ?_⟩
  rfl
end Go.Proofs.YtppapfhfkkafdaaDoor
