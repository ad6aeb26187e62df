/-
  Chapter 22: DepthExact.
-/
import Derived.Test.YtppapfhfkkafdaaDoorD22h

namespace Go.Proofs.YtppapfhfkkafdaaDoor
open Go Go.Tp
set_option linter.unusedVariables false
set_option linter.unusedSimpArgs false
set_option maxRecDepth 100000
set_option maxHeartbeats 4000000



def YE (x : NR) (h : GH) : Nat → List Value → Value → GH → Prop := yl [(1, eqY (.int .i64 x.regs) h), (3, eqY (.int .i64 x.regs) h), (7, eqY (.int .i64 x.temps) h), (9, eqY (.int .i64 x.temps) h), (14, eqY (.bool x.safe) h), (16, eqY (.bool x.safe) h), (20, fun _ v _ => v = .bool true)]
theorem exact_does (w0 : World) (h : GH) (hq : atH h 0 0 quietL) (L : List Ent) (e : KE) (cs : List Value) (hr : RK h e cs) : Does Tryd.prog w0 3 [.agg ⟨cs⟩] h L (Res h L (fun v _ => v = .bool true)) := by
  have hr' := hr
  obtain ⟨k, o, t, n, v, a, m, cap, rfl⟩ := RK_c hr
  refine Does.res (Does.of_V (cfg w0 3 Tryd.f3 25 (RRes h L (fun v _ => v = .bool true)) Tryd.func3) rfl rfl rfl rfl ?_)
  (repeat (first | refine V.step rfl ?_ | refine V.load rfl rfl rfl rfl rfl rfl ?_ | refine V.store rfl rfl rfl rfl rfl rfl rfl ?_ | refine V.condT rfl ?_ | refine V.condF rfl ?_)); refine V.box rfl rfl rfl rfl rfl rfl fun be => ?_; (repeat (first | refine V.step rfl ?_ | refine V.load rfl rfl rfl rfl rfl rfl ?_ | refine V.store rfl rfl rfl rfl rfl rfl rfl ?_ | refine V.condT rfl ?_ | refine V.condF rfl ?_))
  refine V.draw 22 [0, 2, 1, 3, 4, 5, 6, 8, 7, 9, 10, 11, 12, 13, 15, 14, 16, 17, 18, 19, 20, 21] noPubs (YE (nrOf e) h) (by kernel_rfl) (by kernel_rfl) ?_
  (repeat (first | refine WE.step rfl ?_ | refine WE.load rfl rfl rfl rfl rfl rfl rfl ?_))
  refine WE.callIs rfl rfl rfl rfl rfl rfl rfl rfl rfl (fun L => depth_does w0 h hq L e _ hr') ?_
  refine WE.callIs rfl rfl rfl rfl rfl rfl rfl rfl rfl (fun L => refDepth_does w0 h L e _ hr') ?_
  (repeat (first | refine WE.step rfl ?_ | refine WE.load rfl rfl rfl rfl rfl rfl rfl ?_))
  refine WE.val 8 rfl (v' := .bool true) (bool_eq (by simp)) ?_
  refine WE.callIs rfl rfl rfl rfl rfl rfl rfl rfl rfl (fun L => dtemps_does w0 h hq L e _ hr') ?_
  refine WE.callIs rfl rfl rfl rfl rfl rfl rfl rfl rfl (fun L => refTemps_does w0 h L e _ hr') ?_
  (repeat (first | refine WE.step rfl ?_ | refine WE.load rfl rfl rfl rfl rfl rfl rfl ?_))
  refine WE.val 15 rfl (v' := .bool true) (bool_eq (by simp)) ?_
  refine WE.callIs rfl rfl rfl rfl rfl rfl rfl rfl rfl (fun L => dsafe_does w0 h hq L e _ hr') ?_
  refine WE.callIs rfl rfl rfl rfl rfl rfl rfl rfl rfl (fun L => refSafe_does w0 h L e _ hr') ?_
  (repeat (first | refine WE.step rfl ?_ | refine WE.load rfl rfl rfl rfl rfl rfl rfl ?_))
  refine WE.val 22 rfl (v' := .bool true) (bool_eq (by simp)) ?_
  refine WE.call rfl rfl rfl rfl rfl rfl rfl (fun L => (head_does w0 _ hq L).mono ?_) (fun v h2' y1 y2 y3 => ?_)
  · rintro v h' L' ⟨rfl, q1, q2⟩; exact ⟨rfl, q1, q2⟩
  have y3 : v = .bool true := y3
  subst y3
  (repeat (first | refine WE.step rfl ?_ | refine WE.load rfl rfl rfl rfl rfl rfl rfl ?_))
  refine WE.nilC [] (_ :: _) rfl rfl ?_
  (repeat (first | refine V.step rfl ?_ | refine V.load rfl rfl rfl rfl rfl rfl ?_ | refine V.store rfl rfl rfl rfl rfl rfl rfl ?_ | refine V.condT rfl ?_ | refine V.condF rfl ?_))
  refine V.ret1 rfl rfl rfl ⟨y2, (by repeat (first | exact List.Sublist.refl _ | apply List.Sublist.cons_cons | apply List.Sublist.cons)), ?_⟩
  rfl
end Go.Proofs.YtppapfhfkkafdaaDoor
