/-
  Chapter 23: Rank of the program.
-/
import Derived.Test.YtpilobbmijpnoaaQ23f

namespace Go.Proofs.Ytpilobbmijpnoaa
open Go Go.Tp
set_option linter.unusedVariables false
set_option linter.unusedSimpArgs false
set_option maxRecDepth 100000
set_option maxHeartbeats 4000000

def rankR (n : Int) (c : Procs) : List Int × Int := if mayB n c = true then (match kahn (beforeF c) n.toNat with
  | some rk => ((List.range n.toNat).map rk, 0)
  | none => ([], 230)) else ([], 2)
abbrev rankA (p : List Int × Int) : AV := .tp [rowA p.1, AI p.2]
theorem rankR_no {n : Int} {c : Procs} (h : mayB n c = false) : rankR n c = ([], 2) := by rw [rankR, h]; rfl
theorem rankR_some {m : Nat} {c : Procs} (h : mayB m c = true) {rk : Rk} (hk : kahn (beforeF c) m = some rk) : rankR m c = ((List.range m).map rk, 0) := by
  rw [rankR, if_pos h, Int.toNat_natCast, hk]
theorem rankR_none {m : Nat} {c : Procs} (h : mayB m c = true) (hk : kahn (beforeF c) m = none) : rankR m c = ([], 230) := by
  rw [rankR, if_pos h, Int.toNat_natCast, hk]
abbrev rkA (m : Nat) (rk : Rk) : List AV := (List.range m).map fun i => AI (rk i)
theorem rkA_len (m : Nat) (rk : Rk) : (rkA m rk).length = m := by rw [List.length_map, List.length_range]
theorem row_rkA (m : Nat) (rk : Rk) : rowA ((List.range m).map rk) = .sl 1 (rkA m rk) none := by
  show AV.sl 1 (((List.range m).map rk).map AI) none = _
  rw [List.map_map]; rfl
theorem foldR_succ {α : Type} (f : α → Nat → α) (a : α) (m : Nat) : (List.range (m + 1)).foldl f a = f ((List.range m).foldl f a) m := by
  rw [List.range_succ, List.foldl_append]; rfl
theorem gt_max (a b : Int) : (if b > a then b else a) = max a b := by rw [Int.max_def]; split <;> split <;> omega
theorem w64_i (a : Int) : w64 a = IntKind.i64.wrap a := rfl
theorem rank_p (n : Int) (c : Procs) (hs : ShortN c) (hz : sizeN c ≤ 1000) : Pure Try.prog gs0 7 [netA n c] (rankA (rankR n c)) := by
  have hmay := may_p n c hs
  cases hm : mayB n c with
  | false =>
    rw [hm] at hmay
    refine Pure.of (S := tt) (fn := Try.f7) (n := 83) tt_ok Try.func7 rfl rfl rfl rfl fun w0 h0 F hgs => ?_
    (repeat first|refine A.s rfl ?_|refine A.r rfl rfl ?_|refine A.w rfl rfl ?_|refine A.p rfl ?_|refine A.b rfl fun bx=>?_|refine A.t rfl fun bl=>?_|refine A.step rfl ?_|refine A.v rfl rfl ?_)
    refine A.c rfl hmay .refl ?_
    (repeat first|refine A.s rfl ?_|refine A.r rfl rfl ?_|refine A.w rfl rfl ?_|refine A.p rfl ?_|refine A.b rfl fun bx=>?_|refine A.t rfl fun bl=>?_|refine A.step rfl ?_|refine A.v rfl rfl ?_); refine A.ret2 (Λ' := []) rfl rfl rfl rfl (List.nil_sublist _) ⟨?_, rfl⟩; rw [rankR_no hm]; exact .tp (.cons .nil (.cons .refl .nil))
  | true =>
  rw [hm] at hmay
  have hv := (mayB_iff hz).1 hm
  have hin := hv.inB
  have hn := mayG_n hv.g
  have hbef := before_p n c hs hin
  obtain ⟨m, rfl⟩ : ∃ m : Nat, n = m := ⟨n.toNat, by omega⟩
  have hm64 : m ≤ 64 := by omega
  generalize hsd : beforeF c = s at hbef
  refine Pure.of (S := tt) (fn := Try.f7) (n := 83) tt_ok Try.func7 rfl rfl rfl rfl fun w0 h0 F hgs => ?_
  (repeat first|refine A.s rfl ?_|refine A.r rfl rfl ?_|refine A.w rfl rfl ?_|refine A.p rfl ?_|refine A.b rfl fun bx=>?_|refine A.t rfl fun bl=>?_|refine A.step rfl ?_|refine A.v rfl rfl ?_)
  refine A.c rfl hmay .refl ?_
  (repeat first|refine A.s rfl ?_|refine A.r rfl rfl ?_|refine A.w rfl rfl ?_|refine A.p rfl ?_|refine A.b rfl fun bx=>?_|refine A.t rfl fun bl=>?_|refine A.step rfl ?_|refine A.v rfl rfl ?_)
  refine A.c rfl hbef .refl ?_
  (repeat refine A.s rfl ?_)
  refine A.b rfl fun b1 => ?_
  refine A.headEq (.ag (setL fun _ => 0)) (by kernel_rfl) ?_
  refine A.wl rfl (set_one _) (arr_len _) (arr_len _) ?_
  (repeat first|refine A.s rfl ?_|refine A.r rfl rfl ?_|refine A.w rfl rfl ?_|refine A.p rfl ?_|refine A.b rfl fun bx=>?_|refine A.t rfl fun bl=>?_)
  refine A.makeV rfl rfl rfl rfl rfl rfl rfl rfl rfl rfl rfl rfl (by omega) ?_ (by omega) fun a cp hca => ?_
  · show (8 : Int) * _ ≤ _; omega
  (repeat first|refine A.s rfl ?_|refine A.r rfl rfl ?_|refine A.w rfl rfl ?_|refine A.p rfl ?_|refine A.b rfl fun bx=>?_|refine A.t rfl fun bl=>?_|refine A.step rfl ?_|refine A.v rfl rfl ?_)
  refine A.valE 6 rfl (x' := U64 0) rfl ?_
  refine A.entsEq (Λ' := [.row 1 (.slice a m cp) (rkA m fun _ => 0), .box b1 (.ag (setL s)), .box _ (.ag [AI m, procsA c])]) (by rw [rkA, List.map_const', List.length_range]; rfl) ?_
  refine A.keep [1, 4, 5, 6, 7] rfl ?_
  refine A.loopP (ι := Rk × W64 × Int × Nat) (fun q => (⟨[(1, .v (.pointer (some ⟨_, 0, none⟩))), (4, .v (.pointer (some ⟨b1, 0, none⟩))), (5, .ms (.slice a m cp) 1 m), (6, U64 q.2.1), (7, AI q.2.2.1)], []⟩, [.row 1 (.slice a m cp) (rkA m q.1), .box b1 (.ag (setL s)), .box _ (.ag [AI m, procsA c])]))
    (fun q => kahnR s m q.2.2.2 q.1 q.2.1 q.2.2.1 = kahn s m ∧ q.2.2.1 ≤ q.2.2.2 ∧ -64 ≤ q.2.2.1 ∧ q.2.2.1 ≤ 64) (fun q => q.2.2.2) (fun _ => 0, 0, (m : Int), m) ⟨rfl, by simp only; omega, by simp only; omega, by simp only; omega⟩ rfl fun q hi ih => ?_
  obtain ⟨rk, done, left, f⟩ := q
  simp only at hi ih ⊢
  (repeat first|refine A.s rfl ?_|refine A.r rfl rfl ?_|refine A.w rfl rfl ?_|refine A.p rfl ?_|refine A.b rfl fun bx=>?_|refine A.t rfl fun bl=>?_|refine A.step rfl ?_|refine A.v rfl rfl ?_)
  refine A.cond rfl (fun hc => ?_) (fun hc => ?_)
  · simp at hc
    have hl := hc
    obtain ⟨f', rfl⟩ : ∃ f', f = f' + 1 := ⟨f - 1, by omega⟩
    have h1 := hi.1
    rw [kahnR, if_neg (by omega)] at h1
    (repeat first|refine A.s rfl ?_|refine A.r rfl rfl ?_|refine A.w rfl rfl ?_|refine A.p rfl ?_|refine A.b rfl fun bx=>?_|refine A.t rfl fun bl=>?_|refine A.step rfl ?_|refine A.v rfl rfl ?_)
    refine A.valE 26 rfl (x' := AI (m : Nat)) rfl ?_
    refine A.valE 9 rfl (x' := U64 0) rfl ?_
    refine A.keep [1, 4, 5, 6, 7, 8, 9, 26, 27] rfl ?_
    refine A.loopP (ι := Nat) (fun x => (⟨[(1, .v (.pointer (some ⟨_, 0, none⟩))), (4, .v (.pointer (some ⟨b1, 0, none⟩))), (5, .ms (.slice a m cp) 1 m), (6, U64 done), (7, AI (rkXs s m done rk left x).2.2), (8, AI left), (9, U64 (rkXs s m done rk left x).2.1), (26, AI (m : Nat)), (27, AI (x : Nat))], []⟩, [.row 1 (.slice a m cp) (rkA m (rkXs s m done rk left x).1), .box b1 (.ag (setL s)), .box _ (.ag [AI m, procsA c])]))
      (fun x => x ≤ m) (fun x => m - x) 0 (by omega) rfl fun x hx xh => ?_
    have hrl := rkXs_left s m done rk left x
    have hsu := rkXs_succ s m done rk left x
    (repeat first|refine A.s rfl ?_|refine A.r rfl rfl ?_|refine A.w rfl rfl ?_|refine A.p rfl ?_|refine A.b rfl fun bx=>?_|refine A.t rfl fun bl=>?_|refine A.step rfl ?_|refine A.v rfl rfl ?_)
    refine A.cond rfl (fun hc => ?_) (fun hc => ?_)
    · simp at hc
      have hxm : x < m := by omega
      have hx64 : x < 64 := by omega
      rw [rkX] at hsu
      (repeat first|refine A.s rfl ?_|refine A.r rfl rfl ?_|refine A.w rfl rfl ?_|refine A.p rfl ?_|refine A.b rfl fun bx=>?_|refine A.t rfl fun bl=>?_)
      refine A.shift rfl rfl rfl rfl rfl rfl (by omega) ?_
      refine A.valE 32 rfl (x' := U64 (done >>> x)) (u64_eq (ushr _ _ hx64)) ?_
      (repeat first|refine A.s rfl ?_|refine A.r rfl rfl ?_|refine A.w rfl rfl ?_|refine A.p rfl ?_|refine A.b rfl fun bx=>?_|refine A.t rfl fun bl=>?_)
      refine A.valE 35 rfl (x' := AB (done.getLsbD x)) (ab_eq (bit1 _ x)) ?_
      ((fail_if_success (refine A.lit? rfl ?_)); refine A.gS rfl (fun hc => ?_) (fun hc => ?_))
      · have hr : rdy s done x = false := by rw [rdy, hc]; rfl
        rw [hr] at hsu
        (repeat first|refine A.s rfl ?_|refine A.r rfl rfl ?_|refine A.w rfl rfl ?_|refine A.p rfl ?_|refine A.b rfl fun bx=>?_|refine A.t rfl fun bl=>?_|refine A.step rfl ?_|refine A.v rfl rfl ?_)
        refine A.valE 27 rfl (x' := AI ((x + 1 : Nat) : Int)) (inc_eq x (by omega)) ?_
        refine A.valE 7 rfl (x' := AI (rkXs s m done rk left (x + 1)).2.2) (by rw [hsu]; rfl) ?_
        refine A.valE 9 rfl (x' := U64 (rkXs s m done rk left (x + 1)).2.1) (by rw [hsu]; rfl) ?_
        refine A.entsEq (Λ' := [.row 1 (.slice a m cp) (rkA m (rkXs s m done rk left (x + 1)).1), .box b1 (.ag (setL s)), .box _ (.ag [AI m, procsA c])]) (by rw [hsu]; rfl) ?_
        refine A.sub (by repeat (first | exact trivial | refine ⟨⟨_, rfl, .refl⟩, ?_⟩)) (xh (x + 1) (by omega) (by omega))
      have hdx := hc
      (repeat first|refine A.s rfl ?_|refine A.r rfl rfl ?_|refine A.w rfl rfl ?_|refine A.p rfl ?_|refine A.b rfl fun bx=>?_|refine A.t rfl fun bl=>?_)
      refine A.xa rfl (p := x) (by omega) (by omega) (off1 x) rfl ?_
      refine A.ra rfl (range_at _ hx64) rfl ?_
      (repeat first|refine A.s rfl ?_|refine A.r rfl rfl ?_|refine A.w rfl rfl ?_|refine A.p rfl ?_|refine A.b rfl fun bx=>?_|refine A.t rfl fun bl=>?_)
      refine A.valE 42 rfl (x' := AB (!rdy s done x)) (ab_eq ?_) ?_
      · rw [uandn, rdy, hdx, Bool.eq_iff_iff]
        simp only [Bool.false_or, Bool.not_not, bne_iff_ne, ne_eq, Bool.cond_false]
        apply not_congr
        constructor
        · intro h; exact BitVec.eq_of_toNat_eq (by have h : ((s x &&& ~~~done).toNat : Int) = 0 := h; rw [show (0 : W64).toNat = 0 from rfl]; omega)
        · intro h; rw [h]; rfl
      refine A.cond rfl (fun hc => ?_) (fun hc => ?_)
      · have hr : rdy s done x = false := by simpa using hc
        rw [hr] at hsu
        (repeat first|refine A.s rfl ?_|refine A.r rfl rfl ?_|refine A.w rfl rfl ?_|refine A.p rfl ?_|refine A.b rfl fun bx=>?_|refine A.t rfl fun bl=>?_|refine A.step rfl ?_|refine A.v rfl rfl ?_)
        refine A.valE 27 rfl (x' := AI ((x + 1 : Nat) : Int)) (inc_eq x (by omega)) ?_
        refine A.valE 7 rfl (x' := AI (rkXs s m done rk left (x + 1)).2.2) (by rw [hsu]; rfl) ?_
        refine A.valE 9 rfl (x' := U64 (rkXs s m done rk left (x + 1)).2.1) (by rw [hsu]; rfl) ?_
        refine A.entsEq (Λ' := [.row 1 (.slice a m cp) (rkA m (rkXs s m done rk left (x + 1)).1), .box b1 (.ag (setL s)), .box _ (.ag [AI m, procsA c])]) (by rw [hsu]; rfl) ?_
        refine A.sub (by repeat (first | exact trivial | refine ⟨⟨_, rfl, .refl⟩, ?_⟩)) (xh (x + 1) (by omega) (by omega))
      have hr : rdy s done x = true := by simpa using hc
      rw [hr, if_pos rfl] at hsu
      (repeat first|refine A.s rfl ?_|refine A.r rfl rfl ?_|refine A.w rfl rfl ?_|refine A.p rfl ?_|refine A.b rfl fun bx=>?_|refine A.t rfl fun bl=>?_|refine A.step rfl ?_|refine A.v rfl rfl ?_)
      refine A.valE 44 rfl (x' := AI (m : Nat)) rfl ?_
      refine A.keep [1, 4, 5, 6, 7, 8, 9, 10, 26, 27, 44, 45] rfl ?_
      refine A.loopP (ι := Nat) (fun d => (⟨[(1, .v (.pointer (some ⟨_, 0, none⟩))), (4, .v (.pointer (some ⟨b1, 0, none⟩))), (5, .ms (.slice a m cp) 1 m), (6, U64 done), (7, AI (rkXs s m done rk left x).2.2), (8, AI left), (9, U64 (rkXs s m done rk left x).2.1), (10, AI (x : Nat)), (26, AI (m : Nat)), (27, AI (x : Nat)), (44, AI (m : Nat)), (45, AI (d : Nat))], []⟩, [.row 1 (.slice a m cp) (rkA m ((List.range d).foldl (rkD s x) (rkXs s m done rk left x).1)), .box b1 (.ag (setL s)), .box _ (.ag [AI m, procsA c])]))
        (fun d => d ≤ m) (fun d => m - d) 0 (by omega) rfl fun d hd dh => ?_
      have hds := foldR_succ (rkD s x) (rkXs s m done rk left x).1 d
      (repeat first|refine A.s rfl ?_|refine A.r rfl rfl ?_|refine A.w rfl rfl ?_|refine A.p rfl ?_|refine A.b rfl fun bx=>?_|refine A.t rfl fun bl=>?_|refine A.step rfl ?_|refine A.v rfl rfl ?_)
      refine A.cond rfl (fun hc => ?_) (fun hc => ?_)
      · simp at hc
        have hdm : d < m := by omega
        have hd64 : d < 64 := by omega
        rw [rkD] at hds
        (repeat first|refine A.s rfl ?_|refine A.r rfl rfl ?_|refine A.w rfl rfl ?_|refine A.p rfl ?_|refine A.b rfl fun bx=>?_|refine A.t rfl fun bl=>?_|refine A.step rfl ?_|refine A.v rfl rfl ?_)
        refine A.xa rfl (p := x) (by omega) (by omega) (off1 x) rfl ?_
        refine A.ra rfl (range_at _ hx64) rfl ?_
        (repeat first|refine A.s rfl ?_|refine A.r rfl rfl ?_|refine A.w rfl rfl ?_|refine A.p rfl ?_|refine A.b rfl fun bx=>?_|refine A.t rfl fun bl=>?_|refine A.step rfl ?_|refine A.v rfl rfl ?_)
        refine A.shift rfl rfl rfl rfl rfl rfl (by omega) ?_
        refine A.valE 52 rfl (x' := U64 (s x >>> d)) (u64_eq (ushr _ _ hd64)) ?_
        (repeat first|refine A.s rfl ?_|refine A.r rfl rfl ?_|refine A.w rfl rfl ?_|refine A.p rfl ?_|refine A.b rfl fun bx=>?_|refine A.t rfl fun bl=>?_|refine A.step rfl ?_|refine A.v rfl rfl ?_)
        refine A.valE 54 rfl (x' := AB ((s x).getLsbD d)) (ab_eq (bit1 _ d)) ?_
        refine A.cond rfl (fun hc => ?_) (fun hc => ?_)
        · rw [hc, if_pos rfl] at hds
          refine A.draw 12 [0, 1, 2, 3, 4, 5, 6, 7, 8, 9, 10, 11] noPubs [] (by kernel_rfl) (by kernel_rfl) ?_
          (repeat first|refine WA.s rfl ?_|refine WA.r rfl rfl ?_|refine WA.p rfl ?_)
          refine WA.indexRow rfl rfl rfl rfl rfl rfl rfl rfl rfl (by omega) (by rw [rkA_len]; omega) rfl ?_
          refine WA.loadRow rfl rfl rfl rfl rfl rfl rfl (y' := AI _) rfl (range_at _ hxm) rfl rfl ?_
          (repeat first|refine WA.s rfl ?_|refine WA.r rfl rfl ?_|refine WA.p rfl ?_)
          refine WA.indexRow rfl rfl rfl rfl rfl rfl rfl rfl rfl (by omega) (by rw [rkA_len]; omega) rfl ?_
          refine WA.loadRow rfl rfl rfl rfl rfl rfl rfl (y' := AI _) rfl (range_at _ hdm) rfl rfl ?_
          (repeat first|refine WA.s rfl ?_|refine WA.r rfl rfl ?_|refine WA.p rfl ?_)
          refine WA.nil (l := []) rfl ?_
          (repeat first|refine A.s rfl ?_|refine A.r rfl rfl ?_|refine A.w rfl rfl ?_|refine A.p rfl ?_|refine A.b rfl fun bx=>?_|refine A.t rfl fun bl=>?_|refine A.step rfl ?_|refine A.v rfl rfl ?_)
          refine A.indexRow rfl rfl rfl rfl rfl rfl rfl rfl (by omega) (by rw [rkA_len]; omega) rfl ?_
          refine A.valE 66 rfl (x' := AI (max (((List.range d).foldl (rkD s x) (rkXs s m done rk left x).1) x) (w64 (((List.range d).foldl (rkD s x) (rkXs s m done rk left x).1) d + 1)))) (ai_eq ?_) ?_
          · exact gt_max _ _
          refine A.storeRow rfl rfl rfl rfl rfl rfl rfl rfl rfl (by rw [rkA_len]; exact hxm) (xs' := rkA m ((List.range (d + 1)).foldl (rkD s x) (rkXs s m done rk left x).1)) (by rw [hds]; exact range_set AI _ x _) ?_
          (repeat first|refine A.s rfl ?_|refine A.r rfl rfl ?_|refine A.w rfl rfl ?_|refine A.p rfl ?_|refine A.b rfl fun bx=>?_|refine A.t rfl fun bl=>?_|refine A.step rfl ?_|refine A.v rfl rfl ?_)
          refine A.valE 45 rfl (x' := AI ((d + 1 : Nat) : Int)) (inc_eq d (by omega)) ?_
          refine A.sub (by repeat (first | exact trivial | refine ⟨⟨_, rfl, .refl⟩, ?_⟩)) (dh (d + 1) (by omega) (by omega))
        · rw [hc, if_neg (by simp)] at hds
          (repeat first|refine A.s rfl ?_|refine A.r rfl rfl ?_|refine A.w rfl rfl ?_|refine A.p rfl ?_|refine A.b rfl fun bx=>?_|refine A.t rfl fun bl=>?_|refine A.step rfl ?_|refine A.v rfl rfl ?_)
          refine A.entsEq (Λ' := [.row 1 (.slice a m cp) (rkA m ((List.range (d + 1)).foldl (rkD s x) (rkXs s m done rk left x).1)), .box b1 (.ag (setL s)), .box _ (.ag [AI m, procsA c])]) (by rw [hds]) ?_
          refine A.valE 45 rfl (x' := AI ((d + 1 : Nat) : Int)) (inc_eq d (by omega)) ?_
          refine A.sub (by repeat (first | exact trivial | refine ⟨⟨_, rfl, .refl⟩, ?_⟩)) (dh (d + 1) (by omega) (by omega))
      · simp at hc
        have hdl : d = m := by omega
        subst hdl
        (repeat first|refine A.s rfl ?_|refine A.r rfl rfl ?_|refine A.w rfl rfl ?_|refine A.p rfl ?_|refine A.b rfl fun bx=>?_|refine A.t rfl fun bl=>?_|refine A.step rfl ?_|refine A.v rfl rfl ?_)
        refine A.shift rfl rfl rfl rfl rfl rfl (by omega) ?_
        (repeat first|refine A.s rfl ?_|refine A.r rfl rfl ?_|refine A.w rfl rfl ?_|refine A.p rfl ?_|refine A.b rfl fun bx=>?_|refine A.t rfl fun bl=>?_|refine A.step rfl ?_|refine A.v rfl rfl ?_)
        refine A.valE 27 rfl (x' := AI ((x + 1 : Nat) : Int)) (inc_eq x (by omega)) ?_
        refine A.valE 7 rfl (x' := AI (rkXs s d done rk left (x + 1)).2.2) (ai_eq (by rw [hsu]; simp only; exact w64_id (by unfold i64; omega))) ?_
        refine A.valE 9 rfl (x' := U64 (rkXs s d done rk left (x + 1)).2.1) (u64_eq (by rw [ushl x hx64, uor, hsu])) ?_
        refine A.entsEq (Λ' := [.row 1 (.slice a d cp) (rkA d (rkXs s d done rk left (x + 1)).1), .box b1 (.ag (setL s)), .box _ (.ag [AI d, procsA c])]) (by rw [hsu]) ?_
        refine A.sub (by repeat (first | exact trivial | refine ⟨⟨_, rfl, .refl⟩, ?_⟩)) (xh (x + 1) (by omega) (by omega))
    · simp at hc
      have hxl : x = m := by omega
      subst hxl
      (repeat first|refine A.s rfl ?_|refine A.r rfl rfl ?_|refine A.w rfl rfl ?_|refine A.p rfl ?_|refine A.b rfl fun bx=>?_|refine A.t rfl fun bl=>?_|refine A.step rfl ?_|refine A.v rfl rfl ?_)
      refine A.valE 6 rfl (x' := U64 (done ||| (rkXs s x done rk left x).2.1)) (u64_eq (uor _ _)) ?_
      refine A.valE 81 rfl (x' := AB (decide ((rkXs s x done rk left x).2.2 = left))) (ab_eq (by rw [Bool.eq_iff_iff]; simp)) ?_
      refine A.cond rfl (fun hc => ?_) (fun hc => ?_)
      · simp at hc
        rw [if_pos hc] at h1
        (repeat first|refine A.s rfl ?_|refine A.r rfl rfl ?_|refine A.w rfl rfl ?_|refine A.p rfl ?_|refine A.b rfl fun bx=>?_|refine A.t rfl fun bl=>?_|refine A.step rfl ?_|refine A.v rfl rfl ?_); refine A.ret2 (Λ' := []) rfl rfl rfl rfl (List.nil_sublist _) ⟨?_, rfl⟩
        rw [rankR_none hm (by rw [hsd]; exact h1.symm)]
        exact .tp (.cons .nil (.cons .refl .nil))
      · simp at hc
        rw [if_neg hc] at h1
        (repeat first|refine A.s rfl ?_|refine A.r rfl rfl ?_|refine A.w rfl rfl ?_|refine A.p rfl ?_|refine A.b rfl fun bx=>?_|refine A.t rfl fun bl=>?_|refine A.step rfl ?_|refine A.v rfl rfl ?_)
        refine A.sub (by repeat (first | exact trivial | refine ⟨⟨_, rfl, .refl⟩, ?_⟩)) (ih ((rkXs s x done rk left x).1, done ||| (rkXs s x done rk left x).2.1, (rkXs s x done rk left x).2.2, f') ⟨h1, by simp only; omega, by simp only; omega, by simp only; omega⟩ (by simp only; omega))
  · simp at hc
    have h1 : kahn s m = some rk := by
      rw [← hi.1]
      cases f with
      | zero => rfl
      | succ f => rw [kahnR, if_pos (by omega)]
    refine A.freezeRow 5 rfl ?_
    (repeat first|refine A.s rfl ?_|refine A.r rfl rfl ?_|refine A.w rfl rfl ?_|refine A.p rfl ?_|refine A.b rfl fun bx=>?_|refine A.t rfl fun bl=>?_|refine A.step rfl ?_|refine A.v rfl rfl ?_); refine A.ret2 (Λ' := []) rfl rfl rfl rfl (List.nil_sublist _) ⟨?_, rfl⟩
    rw [rankR_some hm (by rw [hsd]; exact h1)]
    show Sb (.tp [_, _]) (.tp [rowA _, AI 0])
    rw [row_rkA]; exact .refl
end Go.Proofs.Ytpilobbmijpnoaa
