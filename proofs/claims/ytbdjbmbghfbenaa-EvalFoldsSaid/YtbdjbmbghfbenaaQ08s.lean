/-
  Texts: strings.Contains, out of the shelf.
-/
import Derived.Shelf.LaysM
import Derived.Shelf.Strings.Shaped
import Derived.Test.YtbdjbmbghfbenaaQ0
import Derived.Test.YtbdjbmbghfbenaaLc
import Derived.Test.YtbdjbmbghfbenaaLb

namespace Go.Proofs
open Go.Shelf
def Try.laysM144_ren : Go.Shelf.Ren := ⟨fun | 144 => 80 | 143 => 90 | 219 => 91 | 217 => 92 | 225 => 93 | 224 => 94 | 267 => 95 | 266 => 96 | 314 => 97 | n => n, fun | 9 => 9 | 4 => 4 | 3 => 3 | 5 => 5 | 46 => 114 | 146 => 140 | 51 => 133 | n => n, fun | 1 => 0 | n => n⟩
theorem Try.laysM144 : Go.Proofs.LaysM.n144 Try.prog Try.laysM144_ren := {
  mixed := by kernel_rfl
  f143 := Try.func90.trans (congrArg some (by kernel_rfl))
  f144 := Try.func80.trans (congrArg some (by kernel_rfl))
  f217 := Try.func92.trans (congrArg some (by kernel_rfl))
  f219 := Try.func91.trans (congrArg some (by kernel_rfl))
  f224 := Try.func94.trans (congrArg some (by kernel_rfl))
  f225 := Try.func93.trans (congrArg some (by kernel_rfl))
  f266 := Try.func96.trans (congrArg some (by kernel_rfl))
  f267 := Try.func95.trans (congrArg some (by kernel_rfl))
  f314 := Try.func97.trans (congrArg some (by kernel_rfl))
  t3 := Try.underlying3
  a3 := Try.isAgg3
  z3 := Try.sizeOf3
  v3 := Try.zeroValue3
  t4 := Try.underlying4
  a4 := Try.isAgg4
  z4 := Try.sizeOf4
  v4 := Try.zeroValue4
  t5 := Try.underlying5
  a5 := Try.isAgg5
  z5 := Try.sizeOf5
  v5 := Try.zeroValue5
  t9 := Try.underlying9
  a9 := Try.isAgg9
  z9 := Try.sizeOf9
  v9 := Try.zeroValue9
  t46 := Try.underlying114
  a46 := Try.isAgg114
  z46 := Try.sizeOf114
  v46 := Try.zeroValue114
  t51 := Try.underlying133
  a51 := Try.isAgg133
  z51 := Try.sizeOf133
  v51 := Try.zeroValue133
  t146 := Try.underlying140
  a146 := Try.isAgg140
  z146 := Try.sizeOf140
  v146 := Try.zeroValue140
  g1 := by kernel_rfl
  i3 := by kernel_rfl
  i4 := by kernel_rfl
  i5 := by kernel_rfl
  i9 := by kernel_rfl
  i46 := by kernel_rfl
  i51 := by kernel_rfl
  i146 := by kernel_rfl
  m1 := by kernel_rfl
  s1_3 := fun w h => Go.Proofs.cell_of_shapedOpen_int (zero := #[.int .i64 0]) (t := 3) h (of_decide_eq_true (by kernel_rfl)) (by kernel_rfl) rfl (by kernel_rfl) (by kernel_rfl) Try.underlying3 }
end Go.Proofs
namespace Go.Proofs.Ytbdjbmbghfbenaa
open Go Go.Tp Go.RowKit
set_option linter.unusedVariables false
set_option linter.unusedSimpArgs false
set_option maxRecDepth 100000

/-- the variable internal/bytealg.MaxLen holds some number -/
abbrev gsM (m : Int) : Ua := [(Try.laysM144_ren.g 1, .pe 1 (.v (.int .i64 m)))]
theorem max_gs {h : GH} {m : Int} (g : GsOk h (gsM m)) : h (Try.laysM144_ren.g 1) 0 = some (.int .i64 m) := by
  have q := g (Try.laysM144_ren.g 1) (.pe 1 (.v (.int .i64 m))) (by simp [gsM, lookA])
  rw [Rp_pe] at q
  obtain ⟨b, o, z, e1, q1, q2, q3⟩ := q
  injection e1 with e1; injection e1 with e1; injection e1 with e1 e2
  subst e1; subst e2
  rw [Rp_v] at q1
  rw [q1.1] at q3
  exact q3 0 _ rfl
theorem contains_p (m : Int) (s sub : List UInt8) (hs : s.length < 4294967281) : Pure Try.prog (gsM m) 80 [AS s, AS sub] (AB (Lib.contains s sub)) := by
  intro w0 h vs L F g r q
  have q : L = [] := q
  subst q
  rw [RpC_cons] at r
  obtain ⟨u, us, rfl, r1, r2⟩ := r
  rw [RpC_cons] at r2
  obtain ⟨u2, us2, rfl, r2, r3⟩ := r2
  rw [RpC_nil] at r3; subst r3
  rw [Rp_v] at r1 r2
  rw [r1.1, r2.1]
  refine ⟨⟨_, _, Try.func80, rfl, rfl⟩, fun w s' => ?_⟩
  have hm := s'.imm _ _ _ (max_gs g)
  refine (Any.strings_Contains { Try.laysM144 with } (BS s) (BS sub) m w hs hm).mono fun e w' ⟨e1, e2⟩ => ?_
  subst e2
  exact ⟨_, h, F, e1, ⟨_, [], [], ⟨rfl, rfl⟩, Rp_v.2 ⟨rfl, rfl⟩, GH.le_refl _, rfl, rfl⟩, s'⟩
theorem max_of (W : World) (h : W.ShapedOpen Try.prog) : ∃ m, GsOk (hOf W) (gsM m) := by
  obtain ⟨m, hm⟩ := Try.laysM144.s1_3 W h
  refine ⟨m, fun g x hx => ?_⟩
  simp only [gsM, lookA] at hx
  split at hx
  · rename_i hg
    have hg := Nat.eq_of_beq_eq_true hg
    injection hx with hx
    subst hx; subst hg
    rw [Rp_pe]
    refine ⟨_, 0, .int .i64 m, rfl, Rp_v.2 ⟨rfl, rfl⟩, rfl, fun i v hv => ?_⟩
    cases i with
    | zero => injection hv with hv; subst hv; exact hOf_eq hm rfl
    | succ i => simp [cellsL] at hv
  · cases hx
end Go.Proofs.Ytbdjbmbghfbenaa
