/-
  Layer 14: the law's examples.
-/
import Derived.Test.YtlnbmocgnkjlfaaGreatQ14o

namespace Go.Proofs.YtlnbmocgnkjlfaaGreat
open Go Go.Tp
set_option linter.unusedVariables false
set_option linter.unusedSimpArgs false
set_option maxRecDepth 100000
set_option maxHeartbeats 4000000

abbrev x14 : XE := nameX [120]
abbrev n14 : XE := nameX [110]
abbrev sq14 : XE := twoX 3 n14 n14
abbrev env3 : List SP := [valS [110] (numX 3)]
theorem env_ok {env : List SP} (h1 : env.length ≤ 200) (h2 : ∀ x, x ∈ env → x.names.length ≤ 8 ∧ i64 x.dim ∧ wfX x.e) : SpecsOk env :=
  ⟨by omega, fun x hx => by have := (h2 x hx).1; omega, fun x hx => (h2 x hx).2.1, fun x hx => (h2 x hx).2.2⟩
theorem ok3 : SpecsOk env3 := (env_ok (by decide) (by simp [i64, i32, wfX, wfXl, u8]))
theorem fold3 : foldE env3 (twoX 1 x14 sq14) = twoX 1 x14 (numX 9) := eqX_eq _ _ (by decide +kernel)
abbrev env5 : List SP := [valS [120] (numX 5), valS [120] (twoX 1 x14 (numX 1))]
abbrev env5d : List SP := [valS [120] (numX 5), declS [120] 0]
abbrev env7 : List SP := [declS [118] 7]
theorem ok5 : SpecsOk env5 := (env_ok (by decide) (by simp [i64, i32, wfX, wfXl, u8]))
theorem ok5d : SpecsOk env5d := (env_ok (by decide) (by simp [i64, i32, wfX, wfXl, u8]))
theorem ok7 : SpecsOk env7 := (env_ok (by decide) (by simp [i64, i32, wfX, wfXl, u8]))
theorem ok0 : SpecsOk [] := (env_ok (by decide) (by simp [i64, i32, wfX, wfXl, u8]))
theorem awake_p (m : Int) : Pure Tryz.prog (gsM m) 6 [] (AB true) := by
  have a1 := (apply_p 5 (-7) 2 (by unfold i32; omega) (by unfold i32; omega)).any (gs := gsM m)
  rw [show applyC 5 (-7) 2 = some (-1) by decide] at a1
  have a2 := (apply_p 1 2147483647 1 (by unfold i32; omega) (by unfold i32; omega)).any (gs := gsM m)
  rw [show applyC 1 2147483647 1 = none by decide] at a2
  have a3 := (apply_p 6 2147483647 1 (by unfold i32; omega) (by unfold i32; omega)).any (gs := gsM m)
  rw [show applyC 6 2147483647 1 = some (-2147483648) by decide] at a3
  have a4 := (apply_p 4 (-2147483648) (-1) (by unfold i32; omega) (by unfold i32; omega)).any (gs := gsM m)
  rw [show applyC 4 (-2147483648) (-1) = none by decide] at a4
  have a5 := (apply_p 5 (-2147483648) (-1) (by unfold i32; omega) (by unfold i32; omega)).any (gs := gsM m)
  rw [show applyC 5 (-2147483648) (-1) = some 0 by decide] at a5
  have a6 := (apply_p 20 1 2 (by unfold i32; omega) (by unfold i32; omega)).any (gs := gsM m)
  rw [show applyC 20 1 2 = none by decide] at a6
  have b1 := Fold_p m env3 ok3 (twoX 1 x14 sq14) (by simp [wfX, wfXl, u8, i32]) (by decide +kernel)
  rw [fold3, encX_eq, encX_eq] at b1
  have b2 := comes_p m env3 ok3 sq14 (by simp [wfX, wfXl, u8, i32]) 9
  rw [show comesM env3 sq14 9 = true by decide +kernel] at b2
  have b3 := (same10_p _ (twoX 1 x14 (numX 9)) (twoX 1 x14 (numX 9)) (Nat.le_refl _) (by simp [wfX, wfXl, u8, i32])).any (gs := gsM m)
  rw [eqX_refl, encX_eq] at b3
  have b4 := comes_p m env5 ok5 x14 (by simp [wfX, wfXl, u8, i32]) 6
  rw [show comesM env5 x14 6 = true by decide +kernel] at b4
  have b5 := fails_p m env5d ok5d x14 (by simp [wfX, wfXl, u8, i32])
  rw [show failsM env5d x14 = true by decide +kernel] at b5
  have b6 := comes_p m env7 ok7 (sizeX [118]) (by simp [wfX, wfXl, u8, i32]) 7
  rw [show comesM env7 (sizeX [118]) 7 = true by decide +kernel] at b6
  have b7 := fails_p m [] ok0 (twoX 4 (numX 1) (numX 0)) (by simp [wfX, wfXl, u8, i32])
  rw [show failsM [] (twoX 4 (numX 1) (numX 0)) = true by decide +kernel] at b7
  have nm := fun n => (number_p n).any (gs := gsM m)
  have na := fun s => (nameX_p s).any (gs := gsM m)
  have tw := fun o a b => (two_p o a b).any (gs := gsM m)
  have vl := fun s e => (valS_p s e).any (gs := gsM m)
  have dc := fun s d => (declS_p s d).any (gs := gsM m)
  refine Pure.of (S := tt) (fn := Tryz.f6) (n := 144) tt_ok Tryz.func6 rfl rfl rfl rfl fun w0 h0 F hgs => ?_
  (repeat first|refine A.s rfl ?_|refine A.r rfl rfl ?_|refine A.w rfl rfl ?_|refine A.p rfl ?_|refine A.b rfl fun bx=>?_|refine A.t rfl fun bl=>?_); refine A.c rfl a1 .refl ?_
  (repeat first|refine A.s rfl ?_|refine A.r rfl rfl ?_|refine A.w rfl rfl ?_|refine A.p rfl ?_|refine A.b rfl fun bx=>?_|refine A.t rfl fun bl=>?_); refine A.c rfl a2 .refl ?_
  (repeat first|refine A.s rfl ?_|refine A.r rfl rfl ?_|refine A.w rfl rfl ?_|refine A.p rfl ?_|refine A.b rfl fun bx=>?_|refine A.t rfl fun bl=>?_); refine A.c rfl a3 .refl ?_
  (repeat first|refine A.s rfl ?_|refine A.r rfl rfl ?_|refine A.w rfl rfl ?_|refine A.p rfl ?_|refine A.b rfl fun bx=>?_|refine A.t rfl fun bl=>?_); refine A.c rfl a4 .refl ?_
  (repeat first|refine A.s rfl ?_|refine A.r rfl rfl ?_|refine A.w rfl rfl ?_|refine A.p rfl ?_|refine A.b rfl fun bx=>?_|refine A.t rfl fun bl=>?_); refine A.c rfl a5 .refl ?_
  (repeat first|refine A.s rfl ?_|refine A.r rfl rfl ?_|refine A.w rfl rfl ?_|refine A.p rfl ?_|refine A.b rfl fun bx=>?_|refine A.t rfl fun bl=>?_); refine A.c rfl a6 .refl ?_
  (repeat first|refine A.s rfl ?_|refine A.r rfl rfl ?_|refine A.w rfl rfl ?_|refine A.p rfl ?_|refine A.b rfl fun bx=>?_|refine A.t rfl fun bl=>?_); refine A.c rfl (na [120]) .refl ?_
  refine A.c rfl (nm 3) .refl ?_
  refine A.c rfl (vl [110] (numX 3)) .refl ?_
  (repeat first|refine A.s rfl ?_|refine A.r rfl rfl ?_|refine A.w rfl rfl ?_|refine A.p rfl ?_|refine A.b rfl fun bx=>?_|refine A.t rfl fun bl=>?_); refine A.c rfl (na [110]) .refl ?_
  refine A.c rfl (na [110]) .refl ?_
  refine A.c rfl (tw 3 n14 n14) .refl ?_
  (repeat first|refine A.s rfl ?_|refine A.r rfl rfl ?_|refine A.w rfl rfl ?_|refine A.p rfl ?_|refine A.b rfl fun bx=>?_|refine A.t rfl fun bl=>?_); refine A.c rfl (tw 1 x14 sq14) .refl ?_
  (repeat first|refine A.s rfl ?_|refine A.r rfl rfl ?_|refine A.w rfl rfl ?_|refine A.p rfl ?_|refine A.b rfl fun bx=>?_|refine A.t rfl fun bl=>?_); refine A.c rfl b1 (by repeat (first | exact Sb.refl | exact SbL.refl | refine SbL.cons ?_ ?_ | exact Sb.nil | exact Sb.own1 | refine Sb.own ?_ | refine Sb.ag ?_ | refine Sb.tp ?_)) ?_
  (repeat first|refine A.s rfl ?_|refine A.r rfl rfl ?_|refine A.w rfl rfl ?_|refine A.p rfl ?_|refine A.b rfl fun bx=>?_|refine A.t rfl fun bl=>?_)
  refine A.draw 49 [0, 1, 2, 3, 4, 5, 6, 7, 8, 9, 10, 11, 12, 13, 14, 15, 16, 17, 18, 19, 20, 21, 22, 23, 24, 25, 26, 27, 28, 29, 30, 31, 32, 33, 34, 35, 36, 37, 38, 39, 40, 41, 42, 43, 44, 45, 46, 47, 48] noPubs [(38, AB true), (47, cellsX (numX 9)), (48, cellsX (twoX 1 x14 (numX 9)))] (by kernel_rfl) (by kernel_rfl) ?_
  (repeat first|refine WA.s rfl ?_|refine WA.r rfl rfl ?_|refine WA.p rfl ?_|refine WA.step rfl ?_|refine WA.v rfl rfl ?_)
  refine WA.c rfl rfl b2 (.sub (by repeat (first | exact Sb.refl | exact SbL.refl | refine SbL.cons ?_ ?_ | exact Sb.nil | exact Sb.own1 | refine Sb.own ?_ | refine Sb.ag ?_ | refine Sb.tp ?_))) ?_
  (repeat first|refine WA.s rfl ?_|refine WA.r rfl rfl ?_|refine WA.p rfl ?_|refine WA.step rfl ?_|refine WA.v rfl rfl ?_)
  refine WA.c rfl rfl (nm 9) (.sub (by repeat (first | exact Sb.refl | exact SbL.refl | refine SbL.cons ?_ ?_ | exact Sb.nil | exact Sb.own1 | refine Sb.own ?_ | refine Sb.ag ?_ | refine Sb.tp ?_))) ?_
  refine WA.c rfl rfl (tw 1 x14 (numX 9)) (.sub (by repeat (first | exact Sb.refl | exact SbL.refl | refine SbL.cons ?_ ?_ | exact Sb.nil | exact Sb.own1 | refine Sb.own ?_ | refine Sb.ag ?_ | refine Sb.tp ?_))) ?_
  refine WA.nil (l := []) rfl ?_
  (repeat first|refine A.s rfl ?_|refine A.r rfl rfl ?_|refine A.w rfl rfl ?_|refine A.p rfl ?_|refine A.b rfl fun bx=>?_|refine A.t rfl fun bl=>?_); refine A.c rfl b3 (by repeat (first | exact Sb.refl | exact SbL.refl | refine SbL.cons ?_ ?_ | exact Sb.nil | exact Sb.own1 | refine Sb.own ?_ | refine Sb.ag ?_ | refine Sb.tp ?_)) ?_
  (repeat first|refine A.s rfl ?_|refine A.r rfl rfl ?_|refine A.w rfl rfl ?_|refine A.p rfl ?_|refine A.b rfl fun bx=>?_|refine A.t rfl fun bl=>?_); refine A.c rfl (nm 5) .refl ?_
  refine A.c rfl (vl [120] (numX 5)) .refl ?_
  (repeat first|refine A.s rfl ?_|refine A.r rfl rfl ?_|refine A.w rfl rfl ?_|refine A.p rfl ?_|refine A.b rfl fun bx=>?_|refine A.t rfl fun bl=>?_)
  refine A.draw 30 [0, 1, 2, 3, 4, 5, 6, 7, 8, 9, 10, 11, 12, 13, 14, 15, 16, 17, 18, 19, 20, 21, 22, 23, 24, 25, 26, 27, 28, 29] (fun i => if i = 9 then [8] else if i = 16 then [15] else if i = 22 then [21] else [])
    [(5, cellsX (numX 1)), (6, cellsX (twoX 1 x14 (numX 1))), (7, encS (valS [120] (twoX 1 x14 (numX 1)))), (9, AB true), (14, encS (declS [120] 0)), (16, AB true), (20, encS (declS [118] 7)), (22, AB true), (25, cellsX (numX 1)), (26, cellsX (numX 0)), (27, cellsX (twoX 4 (numX 1) (numX 0))), (28, AB true)] (by kernel_rfl) (by kernel_rfl) ?_
  (repeat first|refine WA.s rfl ?_|refine WA.r rfl rfl ?_|refine WA.p rfl ?_|refine WA.step rfl ?_|refine WA.v rfl rfl ?_)
  refine WA.c rfl rfl (nm 1) (.sub (by repeat (first | exact Sb.refl | exact SbL.refl | refine SbL.cons ?_ ?_ | exact Sb.nil | exact Sb.own1 | refine Sb.own ?_ | refine Sb.ag ?_ | refine Sb.tp ?_))) ?_
  refine WA.c rfl rfl (tw 1 x14 (numX 1)) (.sub (by repeat (first | exact Sb.refl | exact SbL.refl | refine SbL.cons ?_ ?_ | exact Sb.nil | exact Sb.own1 | refine Sb.own ?_ | refine Sb.ag ?_ | refine Sb.tp ?_))) ?_
  refine WA.c rfl rfl (vl [120] (twoX 1 x14 (numX 1))) (.sub (by repeat (first | exact Sb.refl | exact SbL.refl | refine SbL.cons ?_ ?_ | exact Sb.nil | exact Sb.own1 | refine Sb.own ?_ | refine Sb.ag ?_ | refine Sb.tp ?_))) ?_
  refine WA.lit rfl rfl rfl rfl rfl rfl rfl fun bw => ?_
  (repeat first|refine WA.s rfl ?_|refine WA.r rfl rfl ?_|refine WA.p rfl ?_|refine WA.step rfl ?_|refine WA.v rfl rfl ?_)
  refine WA.c rfl rfl b4 (by repeat (first | exact SbPL.sub SbL.refl | refine SbPL.cons ?_ ?_ | exact SbP.sub Sb.refl | refine SbP.pub (j := 8) rfl rfl ?_ | exact SbP.sub Sb.own1 | exact SbP.sub Sb.nil | focus (refine SbP.sub ?_; (repeat (first | exact Sb.refl | exact SbL.refl | refine SbL.cons ?_ ?_ | exact Sb.nil | exact Sb.own1 | refine Sb.own ?_ | refine Sb.ag ?_ | refine Sb.tp ?_)); done))) ?_
  (repeat first|refine WA.s rfl ?_|refine WA.r rfl rfl ?_|refine WA.p rfl ?_|refine WA.step rfl ?_|refine WA.v rfl rfl ?_)
  refine WA.c rfl rfl (dc [120] 0) (.sub (by repeat (first | exact Sb.refl | exact SbL.refl | refine SbL.cons ?_ ?_ | exact Sb.nil | exact Sb.own1 | refine Sb.own ?_ | refine Sb.ag ?_ | refine Sb.tp ?_))) ?_
  refine WA.lit rfl rfl rfl rfl rfl rfl rfl fun bw => ?_
  (repeat first|refine WA.s rfl ?_|refine WA.r rfl rfl ?_|refine WA.p rfl ?_|refine WA.step rfl ?_|refine WA.v rfl rfl ?_)
  refine WA.c rfl rfl b5 (by repeat (first | exact SbPL.sub SbL.refl | refine SbPL.cons ?_ ?_ | exact SbP.sub Sb.refl | refine SbP.pub (j := 15) rfl rfl ?_ | exact SbP.sub Sb.own1 | exact SbP.sub Sb.nil | focus (refine SbP.sub ?_; (repeat (first | exact Sb.refl | exact SbL.refl | refine SbL.cons ?_ ?_ | exact Sb.nil | exact Sb.own1 | refine Sb.own ?_ | refine Sb.ag ?_ | refine Sb.tp ?_)); done))) ?_
  (repeat first|refine WA.s rfl ?_|refine WA.r rfl rfl ?_|refine WA.p rfl ?_|refine WA.step rfl ?_|refine WA.v rfl rfl ?_)
  refine WA.c rfl rfl (dc [118] 7) (.sub (by repeat (first | exact Sb.refl | exact SbL.refl | refine SbL.cons ?_ ?_ | exact Sb.nil | exact Sb.own1 | refine Sb.own ?_ | refine Sb.ag ?_ | refine Sb.tp ?_))) ?_
  refine WA.lit rfl rfl rfl rfl rfl rfl rfl fun bw => ?_
  (repeat first|refine WA.s rfl ?_|refine WA.r rfl rfl ?_|refine WA.p rfl ?_|refine WA.step rfl ?_|refine WA.v rfl rfl ?_)
  refine WA.c rfl rfl b6 (by repeat (first | exact SbPL.sub SbL.refl | refine SbPL.cons ?_ ?_ | exact SbP.sub Sb.refl | refine SbP.pub (j := 21) rfl rfl ?_ | exact SbP.sub Sb.own1 | exact SbP.sub Sb.nil | focus (refine SbP.sub ?_; (repeat (first | exact Sb.refl | exact SbL.refl | refine SbL.cons ?_ ?_ | exact Sb.nil | exact Sb.own1 | refine Sb.own ?_ | refine Sb.ag ?_ | refine Sb.tp ?_)); done))) ?_
  (repeat first|refine WA.s rfl ?_|refine WA.r rfl rfl ?_|refine WA.p rfl ?_|refine WA.step rfl ?_|refine WA.v rfl rfl ?_)
  refine WA.c rfl rfl (nm 1) (.sub (by repeat (first | exact Sb.refl | exact SbL.refl | refine SbL.cons ?_ ?_ | exact Sb.nil | exact Sb.own1 | refine Sb.own ?_ | refine Sb.ag ?_ | refine Sb.tp ?_))) ?_
  refine WA.c rfl rfl (nm 0) (.sub (by repeat (first | exact Sb.refl | exact SbL.refl | refine SbL.cons ?_ ?_ | exact Sb.nil | exact Sb.own1 | refine Sb.own ?_ | refine Sb.ag ?_ | refine Sb.tp ?_))) ?_
  refine WA.c rfl rfl (tw 4 (numX 1) (numX 0)) (.sub (by repeat (first | exact Sb.refl | exact SbL.refl | refine SbL.cons ?_ ?_ | exact Sb.nil | exact Sb.own1 | refine Sb.own ?_ | refine Sb.ag ?_ | refine Sb.tp ?_))) ?_
  refine WA.c rfl rfl b7 (.sub (by repeat (first | exact Sb.refl | exact SbL.refl | refine SbL.cons ?_ ?_ | exact Sb.nil | exact Sb.own1 | refine Sb.own ?_ | refine Sb.ag ?_ | refine Sb.tp ?_))) ?_
  (repeat first|refine WA.s rfl ?_|refine WA.r rfl rfl ?_|refine WA.p rfl ?_|refine WA.step rfl ?_|refine WA.v rfl rfl ?_)
  refine WA.nil (l := []) rfl ?_
  (repeat first|refine A.s rfl ?_|refine A.r rfl rfl ?_|refine A.w rfl rfl ?_|refine A.p rfl ?_|refine A.b rfl fun bx=>?_|refine A.t rfl fun bl=>?_); refine A.ret1 (Λ' := []) rfl rfl rfl (List.nil_sublist _) ⟨?_, rfl⟩; exact .refl
end Go.Proofs.YtlnbmocgnkjlfaaGreat
