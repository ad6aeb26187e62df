/-
  Texts: strings.Contains, out of the shelf.
-/
import Derived.Shelf.LaysM
import Derived.Shelf.Strings.Shaped
import Derived.Test.YtlnbmocgnkjlfaaGreatQ0
import Derived.Test.YtlnbmocgnkjlfaaGreatLc
import Derived.Test.YtlnbmocgnkjlfaaGreatLb

namespace Go.Proofs
open Go.Shelf
def Tryz.laysM144_ren : Go.Shelf.Ren := ⟨fun | 144 => 98 | 143 => 102 | 219 => 106 | 217 => 107 | 225 => 108 | 224 => 109 | 267 => 110 | 266 => 111 | 314 => 112 | n => n, fun | 9 => 9 | 4 => 4 | 3 => 3 | 5 => 5 | 46 => 91 | 146 => 119 | 51 => 103 | n => n, fun | 1 => 0 | n => n⟩
theorem Tryz.laysM144 : Go.Proofs.LaysM.n144 Tryz.prog Tryz.laysM144_ren := {
  mixed := by kernel_rfl
  f143 := Tryz.func102.trans (congrArg some (by kernel_rfl))
  f144 := Tryz.func98.trans (congrArg some (by kernel_rfl))
  f217 := Tryz.func107.trans (congrArg some (by kernel_rfl))
  f219 := Tryz.func106.trans (congrArg some (by kernel_rfl))
  f224 := Tryz.func109.trans (congrArg some (by kernel_rfl))
  f225 := Tryz.func108.trans (congrArg some (by kernel_rfl))
  f266 := Tryz.func111.trans (congrArg some (by kernel_rfl))
  f267 := Tryz.func110.trans (congrArg some (by kernel_rfl))
  f314 := Tryz.func112.trans (congrArg some (by kernel_rfl))
  t3 := Tryz.underlying3
  a3 := Tryz.isAgg3
  z3 := Tryz.sizeOf3
  v3 := Tryz.zeroValue3
  t4 := Tryz.underlying4
  a4 := Tryz.isAgg4
  z4 := Tryz.sizeOf4
  v4 := Tryz.zeroValue4
  t5 := Tryz.underlying5
  a5 := Tryz.isAgg5
  z5 := Tryz.sizeOf5
  v5 := Tryz.zeroValue5
  t9 := Tryz.underlying9
  a9 := Tryz.isAgg9
  z9 := Tryz.sizeOf9
  v9 := Tryz.zeroValue9
  t46 := Tryz.underlying91
  a46 := Tryz.isAgg91
  z46 := Tryz.sizeOf91
  v46 := Tryz.zeroValue91
  t51 := Tryz.underlying103
  a51 := Tryz.isAgg103
  z51 := Tryz.sizeOf103
  v51 := Tryz.zeroValue103
  t146 := Tryz.underlying119
  a146 := Tryz.isAgg119
  z146 := Tryz.sizeOf119
  v146 := Tryz.zeroValue119
  g1 := by kernel_rfl
  i3 := by kernel_rfl
  i4 := by kernel_rfl
  i5 := by kernel_rfl
  i9 := by kernel_rfl
  i46 := by kernel_rfl
  i51 := by kernel_rfl
  i146 := by kernel_rfl
  m1 := by kernel_rfl
  s1_3 := fun w h => Go.Proofs.cell_of_shapedOpen_int (zero := #[.int .i64 0]) (t := 3) h (of_decide_eq_true (by kernel_rfl)) (by kernel_rfl) rfl (by kernel_rfl) (by kernel_rfl) Tryz.underlying3 }
end Go.Proofs
namespace Go.Proofs.YtlnbmocgnkjlfaaGreat
open Go Go.Tp Go.RowKit
set_option linter.unusedVariables false
set_option linter.unusedSimpArgs false
set_option maxRecDepth 100000

/-- the variable internal/bytealg.MaxLen holds some number -/
abbrev gsM (m : Int) : Ua := [(Tryz.laysM144_ren.g 1, .pe 1 (.v (.int .i64 m)))]
theorem max_gs {h : GH} {m : Int} (g : GsOk h (gsM m)) : h (Tryz.laysM144_ren.g 1) 0 = some (.int .i64 m) := by
  have q := g (Tryz.laysM144_ren.g 1) (.pe 1 (.v (.int .i64 m))) (by simp [gsM, lookA])
  rw [Rp_pe] at q
  obtain ⟨b, o, z, e1, q1, q2, q3⟩ := q
  injection e1 with e1; injection e1 with e1; injection e1 with e1 e2
  subst e1; subst e2
  rw [Rp_v] at q1
  rw [q1.1] at q3
  exact q3 0 _ rfl
theorem contains_p (m : Int) (s sub : List UInt8) (hs : s.length < 4294967281) : Pure Tryz.prog (gsM m) 98 [AS s, AS sub] (AB (Lib.contains s sub)) := by
  intro w0 h vs L F g r q
  have q : L = [] := q
  subst q
  rw [RpC_cons] at r
  obtain ⟨u, us, rfl, r1, r2⟩ := r
  rw [RpC_cons] at r2
  obtain ⟨u2, us2, rfl, r2, r3⟩ := r2
  rw [RpC_nil] at r3; subst r3
  rw [Rp_v] at r1 r2
  rw [r1.1, r2.1]
  refine ⟨⟨_, _, Tryz.func98, rfl, rfl⟩, fun w s' => ?_⟩
  have hm := s'.imm _ _ _ (max_gs g)
  refine (Any.strings_Contains { Tryz.laysM144 with } (BS s) (BS sub) m w hs hm).mono fun e w' ⟨e1, e2⟩ => ?_
  subst e2
  exact ⟨_, h, F, e1, ⟨_, [], [], ⟨rfl, rfl⟩, Rp_v.2 ⟨rfl, rfl⟩, GH.le_refl _, rfl, rfl⟩, s'⟩
theorem max_of (W : World) (h : W.ShapedOpen Tryz.prog) : ∃ m, GsOk (hOf W) (gsM m) := by
  obtain ⟨m, hm⟩ := Tryz.laysM144.s1_3 W h
  refine ⟨m, fun g x hx => ?_⟩
  simp only [gsM, lookA] at hx
  split at hx
  · rename_i hg
    have hg := Nat.eq_of_beq_eq_true hg
    injection hx with hx
    subst hx; subst hg
    rw [Rp_pe]
    refine ⟨_, 0, .int .i64 m, rfl, Rp_v.2 ⟨rfl, rfl⟩, rfl, fun i v hv => ?_⟩
    cases i with
    | zero => injection hv with hv; subst hv; exact hOf_eq hm rfl
    | succ i => simp [cellsL] at hv
  · cases hx
end Go.Proofs.YtlnbmocgnkjlfaaGreat
