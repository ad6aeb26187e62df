/-
  Chapter 23: the fixed results, and the order of processes.
-/
import Derived.Test.YtpilobbmijpnoaaQ23h

namespace Go.Proofs.Ytpilobbmijpnoaa
open Go Go.Tp
set_option linter.unusedVariables false
set_option linter.unusedSimpArgs false
set_option maxRecDepth 100000
set_option maxHeartbeats 4000000

theorem Small.short {c : Procs} (h : Small c) : ShortN c where
  procs := by have := h.procs; omega
  steps := fun p hp => by have := h.steps p hp; omega
  uses := fun p hp s hs => by have := h.row hp hs; omega
def netOne : Procs := [[[0], [1]], [[0], [2]], [[1], [2]]]
def netTwo : Procs := [[[0], [1]], [[1], [2]], [[2], [0]]]
def netThree : Procs := [[[0]]]
theorem small_one : Small netOne := ⟨by decide, by decide, by decide⟩
theorem small_two : Small netTwo := ⟨by decide, by decide, by decide⟩
theorem small_three : Small netThree := ⟨by decide, by decide, by decide⟩
theorem rank_one : rankR 3 netOne = ([0, 1, 2], 0) := by kernel_rfl
theorem rank_two : rankR 3 netTwo = ([], 230) := by kernel_rfl
theorem rank_three : rankR 1 netThree = ([], 2) := by kernel_rfl
theorem cyc_one : cycR1 3 netOne = ([], false) := by kernel_rfl
theorem cyc_two : cycR1 3 netTwo = ([0, 2, 1], true) := by kernel_rfl
theorem chk_one : checkB 3 netOne [5, 7, 9] = true := by kernel_rfl
theorem chk_oneN : checkB 3 netOne [0, 1, 1] = false := by kernel_rfl
theorem chk_two : checkB 3 netTwo [0, 1, 2] = false := by kernel_rfl
theorem head_p : Pure Try.prog gs0 6 [] (AB true) := by
  have r1 := rank_p 3 netOne small_one.short (by decide)
  have r2 := rank_p 3 netTwo small_two.short (by decide)
  have r3 := rank_p 1 netThree small_three.short (by decide)
  have y1 := cycle_p 3 netOne small_one.short (by decide)
  have y2 := cycle_p 3 netTwo small_two.short (by decide)
  have k1 := check_p 3 netOne [5, 7, 9] small_one.short (by decide) (by decide)
  have k2 := check_p 3 netOne [0, 1, 1] small_one.short (by decide) (by decide)
  have k3 := check_p 3 netTwo [0, 1, 2] small_two.short (by decide) (by decide)
  have s1 : Pure Try.prog gs0 13 [rowA [0, 1, 2], rowA [0, 1, 2]] (AB true) := same_p _ _ (by decide)
  have s2 : Pure Try.prog gs0 13 [rowA [0, 2, 1], rowA [0, 2, 1]] (AB true) := same_p _ _ (by decide)
  rw [rank_one] at r1
  rw [rank_two] at r2
  rw [rank_three] at r3
  rw [cyc_one] at y1
  rw [cyc_two] at y2
  rw [chk_one] at k1
  rw [chk_oneN] at k2
  rw [chk_two] at k3
  refine Pure.of (S := tt) (fn := Try.f6) (n := 107) tt_ok Try.func6 rfl rfl rfl rfl fun w0 h0 F hgs => ?_
  (repeat first|refine A.s rfl ?_|refine A.r rfl rfl ?_|refine A.w rfl rfl ?_|refine A.p rfl ?_|refine A.b rfl fun bx=>?_|refine A.t rfl fun bl=>?_|refine A.step rfl ?_|refine A.v rfl rfl ?_)
  refine A.c rfl r1 (by repeat (first | exact Sb.refl | exact SbL.refl | refine SbL.cons ?_ ?_ | exact Sb.nil | exact Sb.own1 | refine Sb.own ?_ | refine Sb.ag ?_ | refine Sb.tp ?_)) ?_
  (repeat first|refine A.s rfl ?_|refine A.r rfl rfl ?_|refine A.w rfl rfl ?_|refine A.p rfl ?_|refine A.b rfl fun bx=>?_|refine A.t rfl fun bl=>?_|refine A.step rfl ?_|refine A.v rfl rfl ?_)
  refine A.c rfl r2 (by repeat (first | exact Sb.refl | exact SbL.refl | refine SbL.cons ?_ ?_ | exact Sb.nil | exact Sb.own1 | refine Sb.own ?_ | refine Sb.ag ?_ | refine Sb.tp ?_)) ?_
  (repeat first|refine A.s rfl ?_|refine A.r rfl rfl ?_|refine A.w rfl rfl ?_|refine A.p rfl ?_|refine A.b rfl fun bx=>?_|refine A.t rfl fun bl=>?_|refine A.step rfl ?_|refine A.v rfl rfl ?_)
  refine A.c rfl y2 (by repeat (first | exact Sb.refl | exact SbL.refl | refine SbL.cons ?_ ?_ | exact Sb.nil | exact Sb.own1 | refine Sb.own ?_ | refine Sb.ag ?_ | refine Sb.tp ?_)) ?_
  (repeat first|refine A.s rfl ?_|refine A.r rfl rfl ?_|refine A.w rfl rfl ?_|refine A.p rfl ?_|refine A.b rfl fun bx=>?_|refine A.t rfl fun bl=>?_|refine A.step rfl ?_|refine A.v rfl rfl ?_)
  refine A.c rfl y1 (by repeat (first | exact Sb.refl | exact SbL.refl | refine SbL.cons ?_ ?_ | exact Sb.nil | exact Sb.own1 | refine Sb.own ?_ | refine Sb.ag ?_ | refine Sb.tp ?_)) ?_
  (repeat first|refine A.s rfl ?_|refine A.r rfl rfl ?_|refine A.w rfl rfl ?_|refine A.p rfl ?_|refine A.b rfl fun bx=>?_|refine A.t rfl fun bl=>?_|refine A.step rfl ?_|refine A.v rfl rfl ?_)
  refine A.c rfl r3 (by repeat (first | exact Sb.refl | exact SbL.refl | refine SbL.cons ?_ ?_ | exact Sb.nil | exact Sb.own1 | refine Sb.own ?_ | refine Sb.ag ?_ | refine Sb.tp ?_)) ?_
  (repeat first|refine A.s rfl ?_|refine A.r rfl rfl ?_|refine A.w rfl rfl ?_|refine A.p rfl ?_|refine A.b rfl fun bx=>?_|refine A.t rfl fun bl=>?_|refine A.step rfl ?_|refine A.v rfl rfl ?_)
  refine A.c rfl s1 (by repeat (first | exact Sb.refl | exact SbL.refl | refine SbL.cons ?_ ?_ | exact Sb.nil | exact Sb.own1 | refine Sb.own ?_ | refine Sb.ag ?_ | refine Sb.tp ?_)) ?_
  (repeat first|refine A.s rfl ?_|refine A.r rfl rfl ?_|refine A.w rfl rfl ?_|refine A.p rfl ?_|refine A.b rfl fun bx=>?_|refine A.t rfl fun bl=>?_|refine A.step rfl ?_|refine A.v rfl rfl ?_)
  refine A.c rfl s2 (by repeat (first | exact Sb.refl | exact SbL.refl | refine SbL.cons ?_ ?_ | exact Sb.nil | exact Sb.own1 | refine Sb.own ?_ | refine Sb.ag ?_ | refine Sb.tp ?_)) ?_
  (repeat first|refine A.s rfl ?_|refine A.r rfl rfl ?_|refine A.w rfl rfl ?_|refine A.p rfl ?_|refine A.b rfl fun bx=>?_|refine A.t rfl fun bl=>?_|refine A.step rfl ?_|refine A.v rfl rfl ?_)
  refine A.c rfl k1 (by repeat (first | exact Sb.refl | exact SbL.refl | refine SbL.cons ?_ ?_ | exact Sb.nil | exact Sb.own1 | refine Sb.own ?_ | refine Sb.ag ?_ | refine Sb.tp ?_)) ?_
  (repeat first|refine A.s rfl ?_|refine A.r rfl rfl ?_|refine A.w rfl rfl ?_|refine A.p rfl ?_|refine A.b rfl fun bx=>?_|refine A.t rfl fun bl=>?_|refine A.step rfl ?_|refine A.v rfl rfl ?_)
  refine A.c rfl k2 (by repeat (first | exact Sb.refl | exact SbL.refl | refine SbL.cons ?_ ?_ | exact Sb.nil | exact Sb.own1 | refine Sb.own ?_ | refine Sb.ag ?_ | refine Sb.tp ?_)) ?_
  (repeat first|refine A.s rfl ?_|refine A.r rfl rfl ?_|refine A.w rfl rfl ?_|refine A.p rfl ?_|refine A.b rfl fun bx=>?_|refine A.t rfl fun bl=>?_|refine A.step rfl ?_|refine A.v rfl rfl ?_)
  refine A.c rfl k3 (by repeat (first | exact Sb.refl | exact SbL.refl | refine SbL.cons ?_ ?_ | exact Sb.nil | exact Sb.own1 | refine Sb.own ?_ | refine Sb.ag ?_ | refine Sb.tp ?_)) ?_
  (repeat first|refine A.s rfl ?_|refine A.r rfl rfl ?_|refine A.w rfl rfl ?_|refine A.p rfl ?_|refine A.b rfl fun bx=>?_|refine A.t rfl fun bl=>?_|refine A.step rfl ?_|refine A.v rfl rfl ?_); refine A.ret1 (Λ' := []) rfl rfl rfl (List.nil_sublist _) ⟨?_, rfl⟩; exact .refl
theorem rankR_rev (n : Int) (c : Procs) (hz : sizeN c ≤ 1000) : rankR n c.reverse = rankR n c := by
  unfold rankR
  rw [mayB_rev n c hz]
  by_cases h : mayB n c = true
  · rw [before_rev ((mayB_iff hz).1 h).inB]
  · rw [if_neg h, if_neg h]
theorem cycR_rev (n : Int) (c : Procs) (hz : sizeN c ≤ 1000) : cycR1 n c.reverse = cycR1 n c := by
  unfold cycR1
  rw [mayB_rev n c hz]
  by_cases h : mayB n c = true
  · rw [before_rev ((mayB_iff hz).1 h).inB]
  · rw [if_neg h, if_neg h]
theorem Small.rev {c : Procs} (h : Small c) : Small c.reverse where
  procs := by rw [List.length_reverse]; exact h.procs
  steps := fun p hp => h.steps p (List.mem_reverse.1 hp)
  size := by rw [sizeN_rev]; exact h.size
theorem rank_len (n : Int) (c : Procs) (hz : sizeN c ≤ 1000) : (rankR n c).1.length ≤ 281474976710656 := by
  unfold rankR
  split
  · rename_i h
    have := mayG_n ((mayB_iff hz).1 h).g
    split
    · simp; omega
    · simp
  · simp
theorem cycR_len (s : Nat → W64) (n : Nat) (g : Nat → Int) (best : Int) : ∀ (f at1 : Nat) (len : Int), (cycR s n g best f at1 len).length ≤ f
  | 0, _, _ => by simp [cycR]
  | f + 1, at1, len => by
    rw [cycR]
    split
    · split
      · rw [List.length_cons]; have := cycR_len s n g best f; rename_i d _; have := this d (len + 1); omega
      · simp
    · simp
theorem cyc_len (n : Int) (c : Procs) : (cycR1 n c).1.length ≤ 281474976710656 := by
  unfold cycR1
  split
  · split
    · rename_i h
      unfold cycV at h
      split at h
      · cases h
      · injection h with h; subst h
        have := cycR_len (beforeF c) n.toNat (farF (beforeF c) (bestF (beforeF c) n.toNat).1.toNat) (bestF (beforeF c) n.toNat).2 66 (bestF (beforeF c) n.toNat).1.toNat 1
        simp; omega
    · simp
  · simp
theorem same_self (a : List Int) (ha : a.length ≤ 281474976710656) : Pure Try.prog gs0 13 [rowA a, rowA a] (AB true) := by
  have := same_p a a ha
  rw [show sameL a a = true by simp [sameL]] at this
  exact this
theorem take_rev {c : Procs} {j : Nat} {p : List (List Int)} (h : c.reverse[j]? = some p) : c.reverse.take (j + 1) = c.reverse.take j ++ [p] := by
  rw [List.take_add_one, h]; rfl
theorem turned_p (n : Int) (c : Procs) (hs : ShortN c) : Pure Try.prog gs0 4 [netA n c] (AB true) := by
  have hlg := large_p n c hs
  cases hg : largeB c with
  | true =>
    rw [hg] at hlg
    refine Pure.of (S := tt) (fn := Try.f4) (n := 78) tt_ok Try.func4 rfl rfl rfl rfl fun w0 h0 F hgs => ?_
    (repeat first|refine A.s rfl ?_|refine A.r rfl rfl ?_|refine A.w rfl rfl ?_|refine A.p rfl ?_|refine A.b rfl fun bx=>?_|refine A.t rfl fun bl=>?_|refine A.step rfl ?_|refine A.v rfl rfl ?_)
    refine A.c rfl hlg .refl ?_
    (repeat first|refine A.s rfl ?_|refine A.r rfl rfl ?_|refine A.w rfl rfl ?_|refine A.p rfl ?_|refine A.b rfl fun bx=>?_|refine A.t rfl fun bl=>?_|refine A.step rfl ?_|refine A.v rfl rfl ?_)
    refine A.c rfl head_p .refl ?_
    (repeat first|refine A.s rfl ?_|refine A.r rfl rfl ?_|refine A.w rfl rfl ?_|refine A.p rfl ?_|refine A.b rfl fun bx=>?_|refine A.t rfl fun bl=>?_|refine A.step rfl ?_|refine A.v rfl rfl ?_); refine A.ret1 (Λ' := []) rfl rfl rfl (List.nil_sublist _) ⟨?_, rfl⟩; exact .refl
  | false =>
  rw [hg] at hlg
  have hsm := small_of hg
  have hz : sizeN c ≤ 1000 := by have := hsm.size; omega
  have hz' : sizeN c.reverse ≤ 1000 := by rw [sizeN_rev]; exact hz
  have h20 := hsm.procs
  have ra := rank_p n c hs hz
  have rb := rank_p n c.reverse hsm.rev.short hz'
  have ya := cycle_p n c hs hz
  have yb := cycle_p n c.reverse hsm.rev.short hz'
  rw [rankR_rev n c hz] at rb
  rw [cycR_rev n c hz] at yb
  have sa := same_self _ (rank_len n c hz)
  have sb := same_self _ (cyc_len n c)
  refine Pure.of (S := tt) (fn := Try.f4) (n := 78) tt_ok Try.func4 rfl rfl rfl rfl fun w0 h0 F hgs => ?_
  (repeat first|refine A.s rfl ?_|refine A.r rfl rfl ?_|refine A.w rfl rfl ?_|refine A.p rfl ?_|refine A.b rfl fun bx=>?_|refine A.t rfl fun bl=>?_|refine A.step rfl ?_|refine A.v rfl rfl ?_)
  refine A.c rfl hlg .refl ?_
  (repeat first|refine A.s rfl ?_|refine A.r rfl rfl ?_|refine A.w rfl rfl ?_|refine A.p rfl ?_|refine A.b rfl fun bx=>?_|refine A.t rfl fun bl=>?_|refine A.step rfl ?_|refine A.v rfl rfl ?_)
  refine A.valE 4 rfl (x' := AI ((c.length : Int) - 1 - (0 : Nat))) (ai_eq (by rw [List.length_map, w64_id (by unfold i64; omega)]; omega)) ?_
  refine A.boxAs (x' := .ag [AI n, .sl 1 ((c.reverse.take 0).map procA) (some (.slice none 0 0))]) (.refl _) (fun h => Rp_ag_imp (RpC_imp (fun _ r => r) (RpC_imp (fun y r => nil_own 1 r) (fun _ r => r)))) ?_
  refine A.fullTail 1 0 none (fun _ => rfl) (fun x hx => by cases hx) ?_
  refine A.keep [1, 3, 4] rfl ?_
  refine A.loopP (ι := Nat × Value) (fun q => (⟨[(1, .v (.pointer (some ⟨_, 0, none⟩))), (3, .v (.pointer (some ⟨_, 0, none⟩))), (4, AI ((c.length : Int) - 1 - (q.1 : Nat)))], []⟩, [.tail 1 q.2, .box _ (.ag [AI n, .sl 1 ((c.reverse.take q.1).map procA) (some q.2)]), .box _ (.ag [AI n, procsA c])]))
    (fun q => q.1 ≤ c.length) (fun q => c.length - q.1) (0, .slice none 0 0) (by simp) rfl fun q hj ih => ?_
  obtain ⟨j, z⟩ := q
  simp only at hj ih ⊢
  (repeat first|refine A.s rfl ?_|refine A.r rfl rfl ?_|refine A.w rfl rfl ?_|refine A.p rfl ?_|refine A.b rfl fun bx=>?_|refine A.t rfl fun bl=>?_)
  refine A.cond rfl (fun hc => ?_) (fun hc => ?_)
  · simp at hc
    have hjc : j < c.length := by omega
    refine Exists.elim (at_exN (l := c) (i := c.length - 1 - j) (by omega)) fun p hp => ?_
    have hpr : c.reverse[j]? = some p := by rw [List.getElem?_reverse hjc]; exact hp
    have htl : ((c.reverse.take j).map procA).length = j := by rw [List.length_map, List.length_take, List.length_reverse]; omega
    (repeat first|refine A.s rfl ?_|refine A.r rfl rfl ?_|refine A.w rfl rfl ?_|refine A.p rfl ?_|refine A.b rfl fun bx=>?_|refine A.t rfl fun bl=>?_)
    refine A.draw 8 [0, 1, 2, 3, 4, 5, 6, 7] noPubs [] (by kernel_rfl) (by kernel_rfl) ?_
    (repeat first|refine WA.s rfl ?_|refine WA.r rfl rfl ?_|refine WA.p rfl ?_)
    refine WA.x rfl (by omega) (by rw [show ((c.length : Int) - 1 - (j : Nat)).toNat = c.length - 1 - j by omega]; exact map_at hp) rfl rfl ?_
    (repeat first|refine WA.s rfl ?_|refine WA.r rfl rfl ?_|refine WA.p rfl ?_)
    refine WA.lit rfl rfl rfl rfl rfl rfl rfl fun bw => ?_
    refine WA.nil (l := [.row 1 (.slice (some ⟨bw, 0, none⟩) 1 1) [procA p]]) rfl ?_
    refine A.freezeRow 34 rfl ?_
    refine A.entsEq (Λ' := [.tail ty37.size z, .box _ _, .box _ _]) rfl ?_
    refine A.append rfl rfl rfl rfl rfl rfl rfl rfl rfl rfl rfl rfl rfl rfl (by show (((c.reverse.take j).map procA).length + 1) * 1 ≤ _; rw [htl]; omega) fun z' => ?_
    refine A.valE 35 rfl (x' := .sl 1 ((c.reverse.take (j + 1)).map procA) (some z')) (by rw [take_rev hpr, List.map_append]; rfl) ?_
    (repeat first|refine A.s rfl ?_|refine A.r rfl rfl ?_|refine A.w rfl rfl ?_|refine A.p rfl ?_|refine A.b rfl fun bx=>?_|refine A.t rfl fun bl=>?_|refine A.step rfl ?_|refine A.v rfl rfl ?_)
    refine A.valE 4 rfl (x' := AI ((c.length : Int) - 1 - (j + 1 : Nat))) (ai_eq (by rw [w64_id (by unfold i64; omega)]; push_cast; omega)) ?_
    refine A.sub (by repeat (first | exact trivial | refine ⟨⟨_, rfl, .refl⟩, ?_⟩)) (ih (j + 1, z') (by simp only; omega) (by simp only; omega))
  simp at hc
  have hjl : j = c.length := by omega
  refine A.entsEq (Λ' := [.tail 1 z, .box _ (.ag [AI n, .sl 1 (c.reverse.map procA) (some z)]), .box _ (.ag [AI n, procsA c])]) (by rw [hjl, List.take_of_length_le (by rw [List.length_reverse]; exact Nat.le_refl _)]) ?_
  (repeat first|refine A.s rfl ?_|refine A.r rfl rfl ?_|refine A.w rfl rfl ?_|refine A.p rfl ?_|refine A.b rfl fun bx=>?_|refine A.t rfl fun bl=>?_)
  refine A.c rfl ra (by repeat (first | exact Sb.refl | exact SbL.refl | refine SbL.cons ?_ ?_ | exact Sb.nil | exact Sb.own1 | refine Sb.own ?_ | refine Sb.ag ?_ | refine Sb.tp ?_)) ?_
  (repeat first|refine A.s rfl ?_|refine A.r rfl rfl ?_|refine A.w rfl rfl ?_|refine A.p rfl ?_|refine A.b rfl fun bx=>?_|refine A.t rfl fun bl=>?_)
  refine A.c rfl rb (by repeat (first | exact Sb.refl | exact SbL.refl | refine SbL.cons ?_ ?_ | exact Sb.nil | exact Sb.own1 | refine Sb.own ?_ | refine Sb.ag ?_ | refine Sb.tp ?_)) ?_
  (repeat first|refine A.s rfl ?_|refine A.r rfl rfl ?_|refine A.w rfl rfl ?_|refine A.p rfl ?_|refine A.b rfl fun bx=>?_|refine A.t rfl fun bl=>?_)
  refine A.c rfl ya (by repeat (first | exact Sb.refl | exact SbL.refl | refine SbL.cons ?_ ?_ | exact Sb.nil | exact Sb.own1 | refine Sb.own ?_ | refine Sb.ag ?_ | refine Sb.tp ?_)) ?_
  (repeat first|refine A.s rfl ?_|refine A.r rfl rfl ?_|refine A.w rfl rfl ?_|refine A.p rfl ?_|refine A.b rfl fun bx=>?_|refine A.t rfl fun bl=>?_)
  refine A.c rfl yb (by repeat (first | exact Sb.refl | exact SbL.refl | refine SbL.cons ?_ ?_ | exact Sb.nil | exact Sb.own1 | refine Sb.own ?_ | refine Sb.ag ?_ | refine Sb.tp ?_)) ?_
  (repeat first|refine A.s rfl ?_|refine A.r rfl rfl ?_|refine A.w rfl rfl ?_|refine A.p rfl ?_|refine A.b rfl fun bx=>?_|refine A.t rfl fun bl=>?_)
  refine A.c rfl sa (by repeat (first | exact Sb.refl | exact SbL.refl | refine SbL.cons ?_ ?_ | exact Sb.nil | exact Sb.own1 | refine Sb.own ?_ | refine Sb.ag ?_ | refine Sb.tp ?_)) ?_
  (repeat first|refine A.s rfl ?_|refine A.r rfl rfl ?_|refine A.w rfl rfl ?_|refine A.p rfl ?_|refine A.b rfl fun bx=>?_|refine A.t rfl fun bl=>?_)
  refine A.valE 65 rfl (x' := AB true) (ab_eq (by simp)) ?_
  (repeat first|refine A.s rfl ?_|refine A.r rfl rfl ?_|refine A.w rfl rfl ?_|refine A.p rfl ?_|refine A.b rfl fun bx=>?_|refine A.t rfl fun bl=>?_)
  refine A.c rfl sb (by repeat (first | exact Sb.refl | exact SbL.refl | refine SbL.cons ?_ ?_ | exact Sb.nil | exact Sb.own1 | refine Sb.own ?_ | refine Sb.ag ?_ | refine Sb.tp ?_)) ?_
  (repeat first|refine A.s rfl ?_|refine A.r rfl rfl ?_|refine A.w rfl rfl ?_|refine A.p rfl ?_|refine A.b rfl fun bx=>?_|refine A.t rfl fun bl=>?_)
  refine A.valE 75 rfl (x' := AB true) (ab_eq (by simp)) ?_
  (repeat first|refine A.s rfl ?_|refine A.r rfl rfl ?_|refine A.w rfl rfl ?_|refine A.p rfl ?_|refine A.b rfl fun bx=>?_|refine A.t rfl fun bl=>?_)
  refine A.c rfl head_p .refl ?_
  (repeat first|refine A.s rfl ?_|refine A.r rfl rfl ?_|refine A.w rfl rfl ?_|refine A.p rfl ?_|refine A.b rfl fun bx=>?_|refine A.t rfl fun bl=>?_|refine A.step rfl ?_|refine A.v rfl rfl ?_); refine A.ret1 (Λ' := []) rfl rfl rfl (List.nil_sublist _) ⟨?_, rfl⟩; exact .refl
end Go.Proofs.Ytpilobbmijpnoaa
