/-
  Chapter 23: Check of the program.
-/
import Derived.Test.YtpilobbmijpnoaaQ23m

namespace Go.Proofs.Ytpilobbmijpnoaa
open Go Go.Tp
set_option linter.unusedVariables false
set_option linter.unusedSimpArgs false
set_option maxRecDepth 100000
set_option maxHeartbeats 4000000

def rkL (r : List Int) (i : Nat) : Int := r.getD i 0
theorem rkL_at {r : List Int} {i : Nat} {v : Int} (h : r[i]? = some v) : rkL r i = v := by rw [rkL, List.getD_eq_getElem?_getD, h]; rfl
def badB (s : Nat → W64) (r : List Int) (x d : Nat) : Bool := (s x).getLsbD d && decide (rkL r x ≤ rkL r d)
def risesB (s : Nat → W64) (r : List Int) (m : Nat) : Bool := (List.range m).all fun x => (List.range m).all fun d => !badB s r x d
def checkB (n : Int) (c : Procs) (r : List Int) : Bool := mayB n c && (decide ((r.length : Int) = n) && risesB (beforeF c) r r.length)
theorem range_drop {m i : Nat} (h : i < m) : (List.range m).drop i = i :: (List.range m).drop (i + 1) := drop_at (List.getElem?_range h)
theorem range_end (m : Nat) : (List.range m).drop m = [] := List.drop_eq_nil_of_le (by rw [List.length_range]; exact Nat.le_refl _)
theorem mayG_n {n : Int} {c : Procs} (h : mayG n c = true) : 0 ≤ n ∧ n ≤ 64 := by
  simp only [mayG, Bool.and_eq_true, decide_eq_true_eq] at h; omega
theorem check_p (n : Int) (c : Procs) (r : List Int) (hs : ShortN c) (hz : sizeN c ≤ 1000) (hr : r.length ≤ 281474976710656) : Pure Try.prog gs0 14 [netA n c, rowA r] (AB (checkB n c r)) := by
  have hmay := may_p n c hs
  have hrl : ((r.map AI).length : Int) = r.length := by rw [List.length_map]
  cases hm : mayB n c with
  | false =>
    rw [hm] at hmay
    refine Pure.of (S := tt) (fn := Try.f14) (n := 50) tt_ok Try.func14 rfl rfl rfl rfl fun w0 h0 F hgs => ?_
    (repeat first|refine A.s rfl ?_|refine A.r rfl rfl ?_|refine A.w rfl rfl ?_|refine A.p rfl ?_|refine A.b rfl fun bx=>?_|refine A.t rfl fun bl=>?_|refine A.step rfl ?_|refine A.v rfl rfl ?_)
    refine A.c rfl hmay .refl ?_
    (repeat first|refine A.s rfl ?_|refine A.r rfl rfl ?_|refine A.w rfl rfl ?_|refine A.p rfl ?_|refine A.b rfl fun bx=>?_|refine A.t rfl fun bl=>?_|refine A.step rfl ?_|refine A.v rfl rfl ?_); refine A.ret1 (Λ' := []) rfl rfl rfl (List.nil_sublist _) ⟨?_, rfl⟩; refine Sb.eq (ab_eq ?_); rw [checkB, hm]; rfl
  | true =>
  rw [hm] at hmay
  have hv := (mayB_iff hz).1 hm
  have hin := hv.inB
  have hn := mayG_n hv.g
  have hbef := before_p n c hs hin
  refine Pure.of (S := tt) (fn := Try.f14) (n := 50) tt_ok Try.func14 rfl rfl rfl rfl fun w0 h0 F hgs => ?_
  (repeat first|refine A.s rfl ?_|refine A.r rfl rfl ?_|refine A.w rfl rfl ?_|refine A.p rfl ?_|refine A.b rfl fun bx=>?_|refine A.t rfl fun bl=>?_|refine A.step rfl ?_|refine A.v rfl rfl ?_)
  refine A.c rfl hmay .refl ?_
  (repeat first|refine A.s rfl ?_|refine A.r rfl rfl ?_|refine A.w rfl rfl ?_|refine A.p rfl ?_|refine A.b rfl fun bx=>?_|refine A.t rfl fun bl=>?_|refine A.step rfl ?_|refine A.v rfl rfl ?_)
  refine A.valE 17 rfl (x' := AB (!decide ((r.length : Int) = n))) (ab_eq (by rw [hrl, Bool.eq_iff_iff]; simp)) ?_
  refine A.cond rfl (fun hc => ?_) (fun hc => ?_)
  · simp at hc
    (repeat first|refine A.s rfl ?_|refine A.r rfl rfl ?_|refine A.w rfl rfl ?_|refine A.p rfl ?_|refine A.b rfl fun bx=>?_|refine A.t rfl fun bl=>?_|refine A.step rfl ?_|refine A.v rfl rfl ?_); refine A.ret1 (Λ' := []) rfl rfl rfl (List.nil_sublist _) ⟨?_, rfl⟩; refine Sb.eq (ab_eq ?_); rw [checkB, show decide ((r.length : Int) = n) = false from decide_eq_false hc]; simp
  simp at hc
  have hrn : (r.length : Int) = n := hc
  have hr64 : r.length ≤ 64 := by omega
  (repeat refine A.s rfl ?_)
  refine A.r rfl rfl ?_
  refine A.c rfl hbef .refl ?_
  (repeat refine A.s rfl ?_)
  refine A.b rfl fun b1 => ?_
  refine A.headEq (.ag (setL fun _ => 0)) (by kernel_rfl) ?_
  refine A.wl rfl (set_one _) (arr_len _) (arr_len _) ?_
  (repeat first|refine A.s rfl ?_|refine A.r rfl rfl ?_|refine A.w rfl rfl ?_|refine A.p rfl ?_|refine A.b rfl fun bx=>?_|refine A.t rfl fun bl=>?_|refine A.step rfl ?_|refine A.v rfl rfl ?_)
  refine A.valE 21 rfl (x' := AI (r.length : Nat)) (ai_eq (by rw [List.length_map])) ?_
  refine A.keep [1, 5, 21, 22] rfl ?_
  refine A.loopP (ι := Nat) (fun x => (⟨[(1, rowA r), (5, .v (.pointer (some ⟨b1, 0, none⟩))), (21, AI (r.length : Nat)), (22, AI (x : Nat))], []⟩, [.box b1 (.ag (setL (beforeF c))), .box _ (.ag [AI n, procsA c])]))
    (fun x => x ≤ r.length ∧ ((List.range r.length).drop x).all (fun x => (List.range r.length).all fun d => !badB (beforeF c) r x d) = risesB (beforeF c) r r.length) (fun x => r.length - x) 0 ⟨by omega, rfl⟩ rfl fun x hi ih => ?_
  (repeat first|refine A.s rfl ?_|refine A.r rfl rfl ?_|refine A.w rfl rfl ?_|refine A.p rfl ?_|refine A.b rfl fun bx=>?_|refine A.t rfl fun bl=>?_|refine A.step rfl ?_|refine A.v rfl rfl ?_)
  refine A.cond rfl (fun hc => ?_) (fun hc => ?_)
  · simp at hc
    have h1 := hi.2
    rw [range_drop hc, List.all_cons] at h1
    refine Exists.elim (at_exN (l := r) (i := x) hc) fun vx hvx => ?_
    (repeat first|refine A.s rfl ?_|refine A.r rfl rfl ?_|refine A.w rfl rfl ?_|refine A.p rfl ?_|refine A.b rfl fun bx=>?_|refine A.t rfl fun bl=>?_|refine A.step rfl ?_|refine A.v rfl rfl ?_)
    refine A.valE 26 rfl (x' := AI (r.length : Nat)) (ai_eq (by rw [List.length_map])) ?_
    refine A.keep [1, 5, 6, 21, 22, 26, 27] rfl ?_
    refine A.loopP (ι := Nat) (fun d => (⟨[(1, rowA r), (5, .v (.pointer (some ⟨b1, 0, none⟩))), (6, AI (x : Nat)), (21, AI (r.length : Nat)), (22, AI (x : Nat)), (26, AI (r.length : Nat)), (27, AI (d : Nat))], []⟩, [.box b1 (.ag (setL (beforeF c))), .box _ (.ag [AI n, procsA c])]))
      (fun d => d ≤ r.length ∧ ((List.range r.length).drop d).all (fun d => !badB (beforeF c) r x d) = (List.range r.length).all fun d => !badB (beforeF c) r x d) (fun d => r.length - d) 0 ⟨by omega, rfl⟩ rfl fun d hj jh => ?_
    (repeat first|refine A.s rfl ?_|refine A.r rfl rfl ?_|refine A.w rfl rfl ?_|refine A.p rfl ?_|refine A.b rfl fun bx=>?_|refine A.t rfl fun bl=>?_|refine A.step rfl ?_|refine A.v rfl rfl ?_)
    refine A.cond rfl (fun hc => ?_) (fun hc => ?_)
    · simp at hc
      have h2 := hj.2
      rw [range_drop hc, List.all_cons] at h2
      refine Exists.elim (at_exN (l := r) (i := d) hc) fun vd hvd => ?_
      have hx64 : x < 64 := by omega
      have hd64 : d < 64 := by omega
      (repeat first|refine A.s rfl ?_|refine A.r rfl rfl ?_|refine A.w rfl rfl ?_|refine A.p rfl ?_|refine A.b rfl fun bx=>?_|refine A.t rfl fun bl=>?_|refine A.step rfl ?_|refine A.v rfl rfl ?_)
      refine A.draw 16 [0, 1, 2, 3, 4, 5, 6, 7, 8, 9, 10, 11, 12, 13, 14, 15] noPubs [] (by kernel_rfl) (by kernel_rfl) ?_
      (repeat first|refine WA.s rfl ?_|refine WA.r rfl rfl ?_|refine WA.p rfl ?_)
      refine WA.xa rfl (p := x) (by omega) (by omega) (off1 x) rfl ?_
      refine WA.ra rfl (range_at _ hx64) rfl ?_
      (repeat first|refine WA.s rfl ?_|refine WA.r rfl rfl ?_|refine WA.p rfl ?_)
      refine WA.shift rfl rfl rfl rfl rfl rfl rfl (by omega) ?_
      refine WA.valE 34 rfl (x' := U64 (beforeF c x >>> d)) (u64_eq (ushr _ _ hd64)) ?_
      (repeat first|refine WA.s rfl ?_|refine WA.r rfl rfl ?_|refine WA.p rfl ?_)
      refine WA.valE 37 rfl (x' := AB ((beforeF c x).getLsbD d)) (ab_eq (bit1 _ d)) ?_
      refine WA.split 37 rfl (fun hb => ?_) (fun hb => ?_)
      · (repeat first|refine WA.s rfl ?_|refine WA.r rfl rfl ?_|refine WA.p rfl ?_)
        refine WA.x rfl (by omega) (map_at hvd) rfl rfl ?_
        (repeat first|refine WA.s rfl ?_|refine WA.r rfl rfl ?_|refine WA.p rfl ?_)
        refine WA.x rfl (by omega) (map_at hvx) rfl rfl ?_
        (repeat first|refine WA.s rfl ?_|refine WA.r rfl rfl ?_|refine WA.p rfl ?_)
        refine WA.nil (l := []) rfl ?_
        (repeat first|refine A.s rfl ?_|refine A.r rfl rfl ?_|refine A.w rfl rfl ?_|refine A.p rfl ?_|refine A.b rfl fun bx=>?_|refine A.t rfl fun bl=>?_|refine A.step rfl ?_|refine A.v rfl rfl ?_)
        refine A.valE 47 rfl (x' := AB (badB (beforeF c) r x d)) (ab_eq (by rw [badB, hb, rkL_at hvx, rkL_at hvd]; rfl)) ?_
        refine A.cond rfl (fun hc => ?_) (fun hc => ?_)
        · rw [hc] at h2
          have h3 : risesB (beforeF c) r r.length = false := by rw [← h1, ← h2]; rfl
          (repeat first|refine A.s rfl ?_|refine A.r rfl rfl ?_|refine A.w rfl rfl ?_|refine A.p rfl ?_|refine A.b rfl fun bx=>?_|refine A.t rfl fun bl=>?_|refine A.step rfl ?_|refine A.v rfl rfl ?_); refine A.ret1 (Λ' := []) rfl rfl rfl (List.nil_sublist _) ⟨?_, rfl⟩; refine Sb.eq (ab_eq ?_); rw [checkB, h3]; simp
        · rw [hc] at h2
          (repeat first|refine A.s rfl ?_|refine A.r rfl rfl ?_|refine A.w rfl rfl ?_|refine A.p rfl ?_|refine A.b rfl fun bx=>?_|refine A.t rfl fun bl=>?_|refine A.step rfl ?_|refine A.v rfl rfl ?_)
          refine A.valE 27 rfl (x' := AI ((d + 1 : Nat) : Int)) (inc_eq d (by omega)) ?_
          refine A.sub (by repeat (first | exact trivial | refine ⟨⟨_, rfl, .refl⟩, ?_⟩)) (jh (d + 1) ⟨by omega, by rw [← h2]; simp⟩ (by omega))
      · (repeat first|refine WA.s rfl ?_|refine WA.r rfl rfl ?_|refine WA.p rfl ?_)
        refine WA.nil (l := []) rfl ?_
        have h3 : badB (beforeF c) r x d = false := by rw [badB, hb]; rfl
        rw [h3] at h2
        (repeat first|refine A.s rfl ?_|refine A.r rfl rfl ?_|refine A.w rfl rfl ?_|refine A.p rfl ?_|refine A.b rfl fun bx=>?_|refine A.t rfl fun bl=>?_|refine A.step rfl ?_|refine A.v rfl rfl ?_)
        refine A.valE 27 rfl (x' := AI ((d + 1 : Nat) : Int)) (inc_eq d (by omega)) ?_
        refine A.sub (by repeat (first | exact trivial | refine ⟨⟨_, rfl, .refl⟩, ?_⟩)) (jh (d + 1) ⟨by omega, by rw [← h2]; simp⟩ (by omega))
    · simp at hc
      have hdl : d = r.length := by omega
      have h2 := hj.2
      rw [hdl, range_end, List.all_nil] at h2
      rw [← h2, Bool.true_and] at h1
      (repeat first|refine A.s rfl ?_|refine A.r rfl rfl ?_|refine A.w rfl rfl ?_|refine A.p rfl ?_|refine A.b rfl fun bx=>?_|refine A.t rfl fun bl=>?_|refine A.step rfl ?_|refine A.v rfl rfl ?_)
      refine A.valE 22 rfl (x' := AI ((x + 1 : Nat) : Int)) (inc_eq x (by omega)) ?_
      refine A.sub (by repeat (first | exact trivial | refine ⟨⟨_, rfl, .refl⟩, ?_⟩)) (ih (x + 1) ⟨by omega, h1⟩ (by omega))
  · simp at hc
    have hxl : x = r.length := by omega
    have h1 := hi.2
    rw [hxl, range_end, List.all_nil] at h1
    (repeat first|refine A.s rfl ?_|refine A.r rfl rfl ?_|refine A.w rfl rfl ?_|refine A.p rfl ?_|refine A.b rfl fun bx=>?_|refine A.t rfl fun bl=>?_|refine A.step rfl ?_|refine A.v rfl rfl ?_); refine A.ret1 (Λ' := []) rfl rfl rfl (List.nil_sublist _) ⟨?_, rfl⟩; refine Sb.eq (ab_eq ?_); rw [checkB, ← h1, hm]; simp; omega
end Go.Proofs.Ytpilobbmijpnoaa
