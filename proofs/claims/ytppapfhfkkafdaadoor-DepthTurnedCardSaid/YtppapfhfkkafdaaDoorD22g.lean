/-
  Chapter 22: measure and its readers; trees the laws build.
-/
import Derived.Test.YtppapfhfkkafdaaDoorD22f

namespace Go.Proofs.YtppapfhfkkafdaaDoor
open Go Go.Tp
set_option linter.unusedVariables false
set_option linter.unusedSimpArgs false
set_option maxRecDepth 100000
set_option maxHeartbeats 4000000



def nrV (e : KE) : List Value := if valid e then nrc (ne e) else zeros
theorem measure_does (w0 : World) (h : GH) (hq : atH h 0 0 quietL) (L : List Ent) (e : KE) (cs : List Value) (hr : RK h e cs) : Does Tryd.prog w0 18 [.agg ⟨cs⟩] h L (Is (.agg ⟨nrV e⟩) h L) := by
  have hr' := hr
  obtain ⟨k, o, t, n, v, a, m, cap, rfl⟩ := RK_c hr
  refine Does.is (Does.of_V (cfg w0 18 Tryd.f18 9 (RIs (.agg ⟨nrV e⟩) h L) Tryd.func18) rfl rfl rfl rfl ?_)
  (repeat (first | refine V.step rfl ?_ | refine V.load rfl rfl rfl rfl rfl rfl ?_ | refine V.store rfl rfl rfl rfl rfl rfl rfl ?_ | refine V.condT rfl ?_ | refine V.condF rfl ?_)); refine V.box rfl rfl rfl rfl rfl rfl fun be => ?_; refine V.alloc rfl rfl rfl rfl rfl rfl fun bx => ?_; (repeat (first | refine V.step rfl ?_ | refine V.load rfl rfl rfl rfl rfl rfl ?_ | refine V.store rfl rfl rfl rfl rfl rfl rfl ?_ | refine V.condT rfl ?_ | refine V.condF rfl ?_))
  refine V.alloc rfl rfl rfl rfl rfl rfl fun rb => ?_; (repeat (first | refine V.step rfl ?_ | refine V.load rfl rfl rfl rfl rfl rfl ?_ | refine V.store rfl rfl rfl rfl rfl rfl rfl ?_ | refine V.condT rfl ?_ | refine V.condF rfl ?_))
  refine V.alloc rfl rfl rfl rfl rfl rfl fun wb => ?_; (repeat (first | refine V.step rfl ?_ | refine V.load rfl rfl rfl rfl rfl rfl ?_ | refine V.store rfl rfl rfl rfl rfl rfl rfl ?_ | refine V.condT rfl ?_ | refine V.condF rfl ?_))
  refine V.publish fun hle => ?_
  have hw : WH (h.add wb 0 [.func (.func 24) #[] #[.pointer (some ⟨rb, 0, none⟩), .pointer (some ⟨wb, 0, none⟩)]]) rb wb := ⟨hq.mono hle, GH.add_at h wb 0 _ (i := 0) rfl⟩
  refine V.call rfl rfl rfl rfl rfl rfl (walk_does w0 rb wb _ e _ _ _ 256 1 (Nat.le_refl _) (RK.mono hle hr) hw (by omega) (by omega) (by omega) (by omega)) ?_
  rintro v1 h1 L1 ⟨hle1, room1, rfl, hv1⟩
  have hle2 := GH.le_trans hle hle1
  by_cases hv : valid e
  · have hnv : nrV e = nrc (ne e) := if_pos hv
    rw [if_pos (show fits e 256 (33 - 1) from hv)] at hv1
    obtain ⟨rfl, _⟩ := hv1
    (repeat (first | refine V.step rfl ?_ | refine V.load rfl rfl rfl rfl rfl rfl ?_ | refine V.store rfl rfl rfl rfl rfl rfl rfl ?_ | refine V.condT rfl ?_ | refine V.condF rfl ?_)); refine V.retC rfl rfl rfl rfl rfl ⟨?_, hle2, (by repeat (first | exact List.Sublist.refl _ | apply List.Sublist.cons_cons | apply List.Sublist.cons))⟩; rw [hnv]; rfl
  · have hnv : nrV e = zeros := if_neg hv
    rw [if_neg (show ¬ fits e 256 (33 - 1) from hv)] at hv1
    subst hv1
    (repeat (first | refine V.step rfl ?_ | refine V.load rfl rfl rfl rfl rfl rfl ?_ | refine V.store rfl rfl rfl rfl rfl rfl rfl ?_ | refine V.condT rfl ?_ | refine V.condF rfl ?_)); refine V.retC rfl rfl rfl rfl rfl ⟨?_, hle2, (by repeat (first | exact List.Sublist.refl _ | apply List.Sublist.cons_cons | apply List.Sublist.cons))⟩; rw [hnv]; rfl

theorem nrV_eq (e : KE) : nrV e = [.bool (decide (valid e)), .bool (nrOf e).safe, .int .i64 (nrOf e).regs, .int .i64 (nrOf e).temps] := by
  unfold nrV nrOf
  by_cases h : valid e
  · simp [h, nrc]
  · simp [h, zeros]
theorem measure_cells (w0 : World) (h : GH) (hq : atH h 0 0 quietL) (L : List Ent) (e : KE) (cs : List Value) (hr : RK h e cs) :
    Does Tryd.prog w0 18 [.agg ⟨cs⟩] h L (Is (.agg ⟨[.bool (decide (valid e)), .bool (nrOf e).safe, .int .i64 (nrOf e).regs, .int .i64 (nrOf e).temps]⟩) h L) := by
  have := measure_does w0 h hq L e cs hr
  rw [nrV_eq] at this; exact this

theorem depth_does (w0 : World) (h : GH) (hq : atH h 0 0 quietL) (L : List Ent) (e : KE) (cs : List Value) (hr : RK h e cs) : Does Tryd.prog w0 7 [.agg ⟨cs⟩] h L (Is (.int .i64 (nrOf e).regs) h L) := by
  have hr' := hr
  obtain ⟨k, o, t, n, v, a, m, cap, rfl⟩ := RK_c hr
  refine Does.is (Does.of_V (cfg w0 7 Tryd.f7 6 (RIs (.int .i64 _) h L) Tryd.func7) rfl rfl rfl rfl ?_)
  (repeat (first | refine V.step rfl ?_ | refine V.load rfl rfl rfl rfl rfl rfl ?_ | refine V.store rfl rfl rfl rfl rfl rfl rfl ?_ | refine V.condT rfl ?_ | refine V.condF rfl ?_)); refine V.box rfl rfl rfl rfl rfl rfl fun be => ?_; (repeat (first | refine V.step rfl ?_ | refine V.load rfl rfl rfl rfl rfl rfl ?_ | refine V.store rfl rfl rfl rfl rfl rfl rfl ?_ | refine V.condT rfl ?_ | refine V.condF rfl ?_)); refine V.callIs rfl rfl rfl rfl rfl rfl (measure_cells w0 h hq _ e _ hr') ?_; (repeat (first | refine V.step rfl ?_ | refine V.load rfl rfl rfl rfl rfl rfl ?_ | refine V.store rfl rfl rfl rfl rfl rfl rfl ?_ | refine V.condT rfl ?_ | refine V.condF rfl ?_)); refine V.ret1 rfl rfl rfl ⟨?_, GH.le_refl _, (by repeat (first | exact List.Sublist.refl _ | apply List.Sublist.cons_cons | apply List.Sublist.cons))⟩; rfl
theorem dtemps_does (w0 : World) (h : GH) (hq : atH h 0 0 quietL) (L : List Ent) (e : KE) (cs : List Value) (hr : RK h e cs) : Does Tryd.prog w0 9 [.agg ⟨cs⟩] h L (Is (.int .i64 (nrOf e).temps) h L) := by
  have hr' := hr
  obtain ⟨k, o, t, n, v, a, m, cap, rfl⟩ := RK_c hr
  refine Does.is (Does.of_V (cfg w0 9 Tryd.f9 6 (RIs (.int .i64 _) h L) Tryd.func9) rfl rfl rfl rfl ?_)
  (repeat (first | refine V.step rfl ?_ | refine V.load rfl rfl rfl rfl rfl rfl ?_ | refine V.store rfl rfl rfl rfl rfl rfl rfl ?_ | refine V.condT rfl ?_ | refine V.condF rfl ?_)); refine V.box rfl rfl rfl rfl rfl rfl fun be => ?_; (repeat (first | refine V.step rfl ?_ | refine V.load rfl rfl rfl rfl rfl rfl ?_ | refine V.store rfl rfl rfl rfl rfl rfl rfl ?_ | refine V.condT rfl ?_ | refine V.condF rfl ?_)); refine V.callIs rfl rfl rfl rfl rfl rfl (measure_cells w0 h hq _ e _ hr') ?_; (repeat (first | refine V.step rfl ?_ | refine V.load rfl rfl rfl rfl rfl rfl ?_ | refine V.store rfl rfl rfl rfl rfl rfl rfl ?_ | refine V.condT rfl ?_ | refine V.condF rfl ?_)); refine V.ret1 rfl rfl rfl ⟨?_, GH.le_refl _, (by repeat (first | exact List.Sublist.refl _ | apply List.Sublist.cons_cons | apply List.Sublist.cons))⟩; rfl
theorem dsafe_does (w0 : World) (h : GH) (hq : atH h 0 0 quietL) (L : List Ent) (e : KE) (cs : List Value) (hr : RK h e cs) : Does Tryd.prog w0 11 [.agg ⟨cs⟩] h L (Is (.bool (nrOf e).safe) h L) := by
  have hr' := hr
  obtain ⟨k, o, t, n, v, a, m, cap, rfl⟩ := RK_c hr
  refine Does.is (Does.of_V (cfg w0 11 Tryd.f11 6 (RIs (.bool _) h L) Tryd.func11) rfl rfl rfl rfl ?_)
  (repeat (first | refine V.step rfl ?_ | refine V.load rfl rfl rfl rfl rfl rfl ?_ | refine V.store rfl rfl rfl rfl rfl rfl rfl ?_ | refine V.condT rfl ?_ | refine V.condF rfl ?_)); refine V.box rfl rfl rfl rfl rfl rfl fun be => ?_; (repeat (first | refine V.step rfl ?_ | refine V.load rfl rfl rfl rfl rfl rfl ?_ | refine V.store rfl rfl rfl rfl rfl rfl rfl ?_ | refine V.condT rfl ?_ | refine V.condF rfl ?_)); refine V.callIs rfl rfl rfl rfl rfl rfl (measure_cells w0 h hq _ e _ hr') ?_; (repeat (first | refine V.step rfl ?_ | refine V.load rfl rfl rfl rfl rfl rfl ?_ | refine V.store rfl rfl rfl rfl rfl rfl rfl ?_ | refine V.condT rfl ?_ | refine V.condF rfl ?_)); refine V.ret1 rfl rfl rfl ⟨?_, GH.le_refl _, (by repeat (first | exact List.Sublist.refl _ | apply List.Sublist.cons_cons | apply List.Sublist.cons))⟩; rfl
end Go.Proofs.YtppapfhfkkafdaaDoor
