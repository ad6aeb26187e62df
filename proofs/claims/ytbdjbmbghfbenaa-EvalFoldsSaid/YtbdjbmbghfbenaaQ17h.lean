/-
  Chapter 17: the law's examples.
-/
import Derived.Test.YtbdjbmbghfbenaaQ17d
import Derived.Test.YtbdjbmbghfbenaaQ17g

namespace Go.Proofs.Ytbdjbmbghfbenaa
open Go Go.Tp
set_option linter.unusedVariables false
set_option linter.unusedSimpArgs false
set_option maxRecDepth 100000
set_option maxHeartbeats 4000000

abbrev s0 : List (List Int) := [[7], [1, 2, 3]]
abbrev innerE : KE := twoE 14 (twoE 4 (numE 1) (twoE 2 (varE 0) (numE 7))) (numE 1)
theorem wf_s0 : wfS s0 := by
  intro r hr x hx
  simp at hr
  rcases hr with rfl | rfl <;> simp at hx <;> unfold i32 <;> omega
theorem sl_rows (hs : List (Value × List Int)) : slL 1 (rowsH hs) = (hs.map Prod.snd).map rowA := by simp [slL, rowsH]
abbrev s1 : List (List Int) := [[5, 6, 7]]
theorem wf_s1 : wfS s1 := by
  intro r hr x hx
  simp at hr
  subst hr; simp at hx; unfold i32; omega
theorem ex1 : Pure Try.prog gs0 8 [rowsA s0, encK (elemE 1 (twoE 2 (varE 0) (numE 5))), AI32 3] (AB true) := is_p s0 wf_s0 _ (by simp [wfK, wfKl, u8, i32, i64]) 3
theorem ex2 : Pure Try.prog gs0 15 [rowsA s0, encK (elemE 1 (varE 0))] (AB true) := faults_p s0 wf_s0 _ (by simp [wfK, wfKl, u8, i32, i64])
theorem ex3 : Pure Try.prog gs0 8 [rowsA s0, encK (twoE 20 (twoE 14 (varE 0) (numE 0)) innerE), AI32 0] (AB true) := is_p s0 wf_s0 _ (by simp [wfK, wfKl, u8, i32, i64]) 0
theorem ex4 : Pure Try.prog gs0 15 [rowsA s0, encK (twoE 20 (twoE 14 (varE 0) (numE 7)) innerE)] (AB true) := faults_p s0 wf_s0 _ (by simp [wfK, wfKl, u8, i32, i64])
theorem ex5 : Pure Try.prog gs0 15 [rowsA s0, encK (twoE 20 (numE 5) (numE 1))] (AB true) := faults_p s0 wf_s0 _ (by simp [wfK, wfKl, u8, i32, i64])
theorem ex6 : Pure Try.prog gs0 15 [rowsA s0, encK (varE 2)] (AB true) := faults_p s0 wf_s0 _ (by simp [wfK, wfKl, u8, i32, i64])
theorem ex7 : Pure Try.prog gs0 12 [rowsA s1, encP 0 [numE 2]] (.tp [AI 0, AI 2, AB true]) := Place_p s1 wf_s1 0 [numE 2] (by simp [wfK, wfKl, u8, i32, i64]) (by decide)
abbrev v0 : List KV := [⟨1, 0⟩, ⟨3, 3⟩]
theorem ex8 : Pure Try.prog gs0 16 [rowsA [[5, 9, 7]], rowsA [[5, 9, 7]]] (AB true) := Same_p [[5, 9, 7]] [[5, 9, 7]] (by simp [short])
theorem ex10 : Pure Try.prog gs0 16 [rowsA [[0], [0, 0, 0]], rowsA [[0], [0, 0, 0]]] (AB true) := Same_p [[0], [0, 0, 0]] [[0], [0, 0, 0]] (by simp [short])
theorem ex11 : Pure Try.prog gs0 18 [kernA v0, rowsA [[-9], [0, 1, 0]]] (AB true) := may_p v0 [[-9], [0, 1, 0]] (by simp) (by simp [short])
theorem ex12 : Pure Try.prog gs0 18 [kernA v0, rowsA [[-9], [0, 2, 0]]] (AB false) := may_p v0 [[-9], [0, 2, 0]] (by simp) (by simp [short])
theorem awake_p : Pure Try.prog gs0 5 [] (AB true) := by
  refine Pure.of (S := tt) (fn := Try.f5) (n := 121) tt_ok Try.func5 rfl rfl rfl rfl fun w0 h0 F hgs => ?_
  (repeat first|refine A.s rfl ?_|refine A.r rfl rfl ?_|refine A.w rfl rfl ?_|refine A.p rfl ?_|refine A.b rfl fun bx=>?_|refine A.t rfl fun bl=>?_|refine A.step rfl ?_|refine A.v rfl rfl ?_)
  refine A.val 1 rfl (x' := rowsA s0) (by refine Sb.own ?_; repeat (first | exact SbL.refl | refine SbL.cons ?_ ?_ | exact Sb.own1)) ?_
  refine A.c rfl (variable_p 0) .refl ?_
  refine A.valE 13 rfl (encK_eq _) ?_
  (repeat first|refine A.s rfl ?_|refine A.r rfl rfl ?_|refine A.w rfl rfl ?_|refine A.p rfl ?_|refine A.b rfl fun bx=>?_|refine A.t rfl fun bl=>?_|refine A.step rfl ?_|refine A.v rfl rfl ?_)
  refine A.draw 8 [1, 7, 0, 2, 3, 4, 5, 6] noPubs [(0, encK (numE 1)), (2, encK (numE 7)), (3, encK (twoE 2 (varE 0) (numE 7))), (4, encK (twoE 4 (numE 1) (twoE 2 (varE 0) (numE 7)))), (5, encK (numE 1)), (6, encK innerE)] (by kernel_rfl) (by kernel_rfl) ?_
  (repeat first|refine WA.s rfl ?_|refine WA.r rfl rfl ?_|refine WA.p rfl ?_|refine WA.step rfl ?_|refine WA.v rfl rfl ?_)
  refine WA.alloc rfl rfl rfl rfl rfl rfl rfl rfl fun b3 => ?_
  (repeat first|refine WA.s rfl ?_|refine WA.r rfl rfl ?_|refine WA.p rfl ?_|refine WA.step rfl ?_|refine WA.v rfl rfl ?_)
  refine WA.c rfl rfl (number_p 1) (.sub .refl) ?_
  refine WA.c rfl rfl (number_p 7) (.sub .refl) ?_
  refine WA.valE 15 rfl (x' := encK (varE 0)) (encK_eq _).symm ?_
  refine WA.c rfl rfl (two_p 2 _ _) (.sub .refl) ?_
  refine WA.c rfl rfl (two_p 4 _ _) (.sub .refl) ?_
  refine WA.c rfl rfl (number_p 1) (.sub .refl) ?_
  refine WA.c rfl rfl (two_p 14 _ _) (.sub .refl) ?_
  refine WA.valE 20 rfl (encK_eq _) ?_
  refine WA.nil (l := [.box b3 _]) rfl ?_
  refine A.entsEq (Λ' := [.box b3 _, .box _ _]) rfl ?_
  (repeat first|refine A.s rfl ?_|refine A.r rfl rfl ?_|refine A.w rfl rfl ?_|refine A.p rfl ?_|refine A.b rfl fun bx=>?_|refine A.t rfl fun bl=>?_|refine A.step rfl ?_|refine A.v rfl rfl ?_)
  refine A.c rfl (number_p 2) .refl ?_
  refine A.valE 24 rfl (encK_eq _) ?_
  (repeat first|refine A.s rfl ?_|refine A.r rfl rfl ?_|refine A.w rfl rfl ?_|refine A.p rfl ?_|refine A.b rfl fun bx=>?_|refine A.t rfl fun bl=>?_|refine A.step rfl ?_|refine A.v rfl rfl ?_)
  refine A.val 23 rfl (x' := rowsA s1) (by refine Sb.own ?_; repeat (first | exact SbL.refl | refine SbL.cons ?_ ?_ | exact Sb.own1)) ?_
  refine A.val 26 rfl (x' := .ag [AI 0, .sl 6 [.ag [AU8 1, AU8 0, AU8 0, AI32 2, AI 0, .sl 6 (encKl []) none]] none]) (by repeat (first | exact Sb.refl | exact SbL.refl | refine SbL.cons ?_ ?_ | exact Sb.nil | exact Sb.own1 | refine Sb.own ?_ | refine Sb.ag ?_ | refine Sb.tp ?_)) ?_
  have h7 := ex7
  simp only [encP, encKl, encK_eq] at h7
  refine A.c rfl (h7) .refl ?_
  (repeat first|refine A.s rfl ?_|refine A.r rfl rfl ?_|refine A.w rfl rfl ?_|refine A.p rfl ?_|refine A.b rfl fun bx=>?_|refine A.t rfl fun bl=>?_|refine A.step rfl ?_|refine A.v rfl rfl ?_)
  refine A.val 32 rfl (x' := rowsA s1) (by refine Sb.own ?_; repeat (first | exact SbL.refl | refine SbL.cons ?_ ?_ | exact Sb.own1)) ?_
  refine A.e rfl (put_p s1 0 1 9 (by decide) (by simp)) .refl (.refl _) fun p hp => ?_
  refine A.freezeRows 33 rfl (.refl _) ?_
  refine A.valE 33 rfl (x' := rowsA [[5, 9, 7]]) (by rw [sl_rows, hp]; rfl) ?_
  (repeat first|refine A.s rfl ?_|refine A.r rfl rfl ?_|refine A.w rfl rfl ?_|refine A.p rfl ?_|refine A.b rfl fun bx=>?_|refine A.t rfl fun bl=>?_|refine A.step rfl ?_|refine A.v rfl rfl ?_)
  refine A.entsEq (Λ' := [.box _ _, .box b3 _, .box _ _]) rfl ?_
  refine A.draw 40 [0, 1, 2, 3, 4, 5, 6, 7, 8, 9, 10, 11, 12, 13, 14, 17, 15, 16, 18, 19, 20, 21, 22, 23, 26, 24, 25, 27, 28, 29, 30, 31, 32, 33, 34, 35, 36, 37, 38, 39] noPubs
    [(2, encK (numE 5)), (3, encK (twoE 2 (varE 0) (numE 5))), (4, encK (elemE 1 (twoE 2 (varE 0) (numE 5)))), (5, AB true), (9, encK (elemE 1 (varE 0))), (10, AB true), (15, encK (numE 0)), (16, encK (twoE 14 (varE 0) (numE 0))), (18, encK (twoE 20 (twoE 14 (varE 0) (numE 0)) innerE)), (19, AB true),
     (24, encK (numE 7)), (25, encK (twoE 14 (varE 0) (numE 7))), (27, encK (twoE 20 (twoE 14 (varE 0) (numE 7)) innerE)), (28, AB true), (32, encK (numE 5)), (33, encK (numE 1)), (34, encK (twoE 20 (numE 5) (numE 1))), (35, AB true), (39, encK (varE 2))] (by kernel_rfl) (by kernel_rfl) ?_
  (repeat first|refine WA.s rfl ?_|refine WA.r rfl rfl ?_|refine WA.p rfl ?_|refine WA.step rfl ?_|refine WA.v rfl rfl ?_); refine WA.c rfl rfl (number_p 5) (.sub .refl) ?_
  refine WA.valE 39 rfl (x' := encK (varE 0)) (encK_eq _).symm ?_
  (repeat first|refine WA.s rfl ?_|refine WA.r rfl rfl ?_|refine WA.p rfl ?_|refine WA.step rfl ?_|refine WA.v rfl rfl ?_); refine WA.c rfl rfl (two_p 2 _ _) (.sub .refl) ?_
  (repeat first|refine WA.s rfl ?_|refine WA.r rfl rfl ?_|refine WA.p rfl ?_|refine WA.step rfl ?_|refine WA.v rfl rfl ?_); refine WA.c rfl rfl (element_p 1 _) (.sub .refl) ?_
  (repeat first|refine WA.s rfl ?_|refine WA.r rfl rfl ?_|refine WA.p rfl ?_|refine WA.step rfl ?_|refine WA.v rfl rfl ?_); refine WA.c rfl rfl ex1 (.sub .refl) ?_
  (repeat first|refine WA.s rfl ?_|refine WA.r rfl rfl ?_|refine WA.p rfl ?_|refine WA.step rfl ?_|refine WA.v rfl rfl ?_)
  refine WA.valE 46 rfl (x' := encK (varE 0)) (encK_eq _).symm ?_
  refine WA.c rfl rfl (element_p 1 _) (.sub .refl) ?_
  (repeat first|refine WA.s rfl ?_|refine WA.r rfl rfl ?_|refine WA.p rfl ?_|refine WA.step rfl ?_|refine WA.v rfl rfl ?_); refine WA.c rfl rfl ex2 (.sub .refl) ?_
  (repeat first|refine WA.s rfl ?_|refine WA.r rfl rfl ?_|refine WA.p rfl ?_|refine WA.step rfl ?_|refine WA.v rfl rfl ?_); refine WA.c rfl rfl (number_p 0) (.sub .refl) ?_
  refine WA.valE 52 rfl (x' := encK (varE 0)) (encK_eq _).symm ?_
  refine WA.valE 55 rfl (x' := encK innerE) (encK_eq _).symm ?_
  (repeat first|refine WA.s rfl ?_|refine WA.r rfl rfl ?_|refine WA.p rfl ?_|refine WA.step rfl ?_|refine WA.v rfl rfl ?_); refine WA.c rfl rfl (two_p 14 _ _) (.sub .refl) ?_
  (repeat first|refine WA.s rfl ?_|refine WA.r rfl rfl ?_|refine WA.p rfl ?_|refine WA.step rfl ?_|refine WA.v rfl rfl ?_); refine WA.c rfl rfl (two_p 20 _ _) (.sub .refl) ?_
  (repeat first|refine WA.s rfl ?_|refine WA.r rfl rfl ?_|refine WA.p rfl ?_|refine WA.step rfl ?_|refine WA.v rfl rfl ?_); refine WA.c rfl rfl ex3 (.sub .refl) ?_
  (repeat first|refine WA.s rfl ?_|refine WA.r rfl rfl ?_|refine WA.p rfl ?_|refine WA.step rfl ?_|refine WA.v rfl rfl ?_)
  refine WA.valE 61 rfl (x' := encK (varE 0)) (encK_eq _).symm ?_
  refine WA.valE 64 rfl (x' := encK innerE) (encK_eq _).symm ?_
  refine WA.c rfl rfl (number_p 7) (.sub .refl) ?_
  (repeat first|refine WA.s rfl ?_|refine WA.r rfl rfl ?_|refine WA.p rfl ?_|refine WA.step rfl ?_|refine WA.v rfl rfl ?_); refine WA.c rfl rfl (two_p 14 _ _) (.sub .refl) ?_
  (repeat first|refine WA.s rfl ?_|refine WA.r rfl rfl ?_|refine WA.p rfl ?_|refine WA.step rfl ?_|refine WA.v rfl rfl ?_); refine WA.c rfl rfl (two_p 20 _ _) (.sub .refl) ?_
  (repeat first|refine WA.s rfl ?_|refine WA.r rfl rfl ?_|refine WA.p rfl ?_|refine WA.step rfl ?_|refine WA.v rfl rfl ?_); refine WA.c rfl rfl ex4 (.sub .refl) ?_
  (repeat first|refine WA.s rfl ?_|refine WA.r rfl rfl ?_|refine WA.p rfl ?_|refine WA.step rfl ?_|refine WA.v rfl rfl ?_); refine WA.c rfl rfl (number_p 5) (.sub .refl) ?_
  (repeat first|refine WA.s rfl ?_|refine WA.r rfl rfl ?_|refine WA.p rfl ?_|refine WA.step rfl ?_|refine WA.v rfl rfl ?_); refine WA.c rfl rfl (number_p 1) (.sub .refl) ?_
  (repeat first|refine WA.s rfl ?_|refine WA.r rfl rfl ?_|refine WA.p rfl ?_|refine WA.step rfl ?_|refine WA.v rfl rfl ?_); refine WA.c rfl rfl (two_p 20 _ _) (.sub .refl) ?_
  (repeat first|refine WA.s rfl ?_|refine WA.r rfl rfl ?_|refine WA.p rfl ?_|refine WA.step rfl ?_|refine WA.v rfl rfl ?_); refine WA.c rfl rfl ex5 (.sub .refl) ?_
  (repeat first|refine WA.s rfl ?_|refine WA.r rfl rfl ?_|refine WA.p rfl ?_|refine WA.step rfl ?_|refine WA.v rfl rfl ?_); refine WA.c rfl rfl (variable_p 2) (.sub .refl) ?_
  (repeat first|refine WA.s rfl ?_|refine WA.r rfl rfl ?_|refine WA.p rfl ?_|refine WA.step rfl ?_|refine WA.v rfl rfl ?_)
  refine WA.nil (l := []) rfl ?_
  refine A.entsEq (Λ' := [.box _ _, .box b3 _, .box _ _]) rfl ?_
  (repeat first|refine A.s rfl ?_|refine A.r rfl rfl ?_|refine A.w rfl rfl ?_|refine A.p rfl ?_|refine A.b rfl fun bx=>?_|refine A.t rfl fun bl=>?_|refine A.step rfl ?_|refine A.v rfl rfl ?_)
  refine A.c rfl ex6 .refl ?_
  (repeat first|refine A.s rfl ?_|refine A.r rfl rfl ?_|refine A.w rfl rfl ?_|refine A.p rfl ?_|refine A.b rfl fun bx=>?_|refine A.t rfl fun bl=>?_|refine A.step rfl ?_|refine A.v rfl rfl ?_)
  refine A.val 95 rfl (x' := rowsA [[5, 9, 7]]) (by refine Sb.own ?_; repeat (first | exact SbL.refl | refine SbL.cons ?_ ?_ | exact Sb.own1)) ?_
  refine A.c rfl ex8 .refl ?_
  (repeat first|refine A.s rfl ?_|refine A.r rfl rfl ?_|refine A.w rfl rfl ?_|refine A.p rfl ?_|refine A.b rfl fun bx=>?_|refine A.t rfl fun bl=>?_|refine A.step rfl ?_|refine A.v rfl rfl ?_)
  refine A.e rfl (store_p v0 rfl) (by repeat (first | exact Sb.refl | exact SbL.refl | refine SbL.cons ?_ ?_ | exact Sb.nil | exact Sb.own1 | refine Sb.own ?_ | refine Sb.ag ?_ | refine Sb.tp ?_)) (.refl _) fun p hp => ?_
  refine A.freezeRows 100 rfl (.refl _) ?_
  refine A.valE 100 rfl (x' := rowsA [[0], [0, 0, 0]]) (by rw [sl_rows, hp]; rfl) ?_
  refine A.entsEq (Λ' := [.box _ _, .box b3 _, .box _ _]) rfl ?_
  (repeat first|refine A.s rfl ?_|refine A.r rfl rfl ?_|refine A.w rfl rfl ?_|refine A.p rfl ?_|refine A.b rfl fun bx=>?_|refine A.t rfl fun bl=>?_|refine A.step rfl ?_|refine A.v rfl rfl ?_)
  refine A.val 103 rfl (x' := rowsA [[0], [0, 0, 0]]) (by refine Sb.own ?_; repeat (first | exact SbL.refl | refine SbL.cons ?_ ?_ | exact Sb.own1)) ?_
  refine A.c rfl ex10 .refl ?_
  (repeat first|refine A.s rfl ?_|refine A.r rfl rfl ?_|refine A.w rfl rfl ?_|refine A.p rfl ?_|refine A.b rfl fun bx=>?_|refine A.t rfl fun bl=>?_|refine A.step rfl ?_|refine A.v rfl rfl ?_)
  refine A.val 110 rfl (x' := rowsA [[-9], [0, 1, 0]]) (by refine Sb.own ?_; repeat (first | exact SbL.refl | refine SbL.cons ?_ ?_ | exact Sb.own1)) ?_
  refine A.c rfl ex11 (by repeat (first | exact Sb.refl | exact SbL.refl | refine SbL.cons ?_ ?_ | exact Sb.nil | exact Sb.own1 | refine Sb.own ?_ | refine Sb.ag ?_ | refine Sb.tp ?_)) ?_
  (repeat first|refine A.s rfl ?_|refine A.r rfl rfl ?_|refine A.w rfl rfl ?_|refine A.p rfl ?_|refine A.b rfl fun bx=>?_|refine A.t rfl fun bl=>?_|refine A.step rfl ?_|refine A.v rfl rfl ?_)
  refine A.val 117 rfl (x' := rowsA [[-9], [0, 2, 0]]) (by refine Sb.own ?_; repeat (first | exact SbL.refl | refine SbL.cons ?_ ?_ | exact Sb.own1)) ?_
  refine A.c rfl ex12 (by repeat (first | exact Sb.refl | exact SbL.refl | refine SbL.cons ?_ ?_ | exact Sb.nil | exact Sb.own1 | refine Sb.own ?_ | refine Sb.ag ?_ | refine Sb.tp ?_)) ?_
  (repeat first|refine A.s rfl ?_|refine A.r rfl rfl ?_|refine A.w rfl rfl ?_|refine A.p rfl ?_|refine A.b rfl fun bx=>?_|refine A.t rfl fun bl=>?_|refine A.step rfl ?_|refine A.v rfl rfl ?_)
  refine A.ret1 (Λ' := []) rfl rfl rfl (List.nil_sublist _) ⟨?_, rfl⟩
  exact .refl
end Go.Proofs.Ytbdjbmbghfbenaa
