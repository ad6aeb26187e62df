/-
  Layer 14: environments with their values.
-/
import Derived.Test.YtbdjbmbghfbenaaQ14g
import Derived.Test.YtbdjbmbghfbenaaLc

namespace Go.Proofs.Ytbdjbmbghfbenaa
open Go Go.Tp
set_option linter.unusedVariables false
set_option linter.unusedSimpArgs false
set_option maxRecDepth 100000
set_option maxHeartbeats 4000000

abbrev scopeV (env : List SP) (v : Value) : AV := .ag [specsA env, .v v]
theorem until_p (env : List SP) (a : Option Addr) (n c i : Nat) (hi : i ≤ env.length) (hc : i ≤ c) : Pure Try.prog gs0 35 [scopeV env (.slice a n c), AI i] (scopeV (env.take i) (partV 2 0 i (.slice a n c))) := by
  refine Pure.of (S := tt) (fn := Try.f35) (n := 14) tt_ok Try.func35 rfl rfl rfl rfl fun w0 h0 F hgs => ?_
  (repeat first|refine A.s rfl ?_|refine A.r rfl rfl ?_|refine A.w rfl rfl ?_|refine A.p rfl ?_|refine A.b rfl fun bx=>?_|refine A.t rfl fun bl=>?_|refine A.step rfl ?_|refine A.v rfl rfl ?_)
  refine A.draw 9 [0, 1, 2, 3, 4, 5, 6, 7, 8] noPubs [] (by kernel_rfl) (by kernel_rfl) ?_
  (repeat first|refine WA.s rfl ?_|refine WA.r rfl rfl ?_|refine WA.p rfl ?_|refine WA.step rfl ?_|refine WA.v rfl rfl ?_)
  refine WA.slice (ys := (env.take i).map encS) rfl rfl rfl rfl rfl rfl rfl rfl rfl rfl (by decide) (by omega) (by rw [List.length_map]; omega) (by simp [List.map_take]) rfl ?_
  (repeat first|refine WA.s rfl ?_|refine WA.r rfl rfl ?_|refine WA.p rfl ?_|refine WA.step rfl ?_|refine WA.v rfl rfl ?_)
  refine WA.sliceV rfl rfl rfl rfl rfl rfl rfl rfl rfl (by decide) (by omega) (by omega) (fun x => by cases x) rfl rfl ?_
  (repeat first|refine WA.s rfl ?_|refine WA.r rfl rfl ?_|refine WA.p rfl ?_|refine WA.step rfl ?_|refine WA.v rfl rfl ?_)
  refine WA.nil (l := []) rfl ?_
  (repeat first|refine A.s rfl ?_|refine A.r rfl rfl ?_|refine A.w rfl rfl ?_|refine A.p rfl ?_|refine A.b rfl fun bx=>?_|refine A.t rfl fun bl=>?_|refine A.step rfl ?_|refine A.v rfl rfl ?_); refine A.retC (Λ' := []) rfl rfl rfl rfl rfl (List.nil_sublist _) ⟨?_, rfl⟩; exact .refl
/-- the value of the i-th specification, by those before it -/
def stepV (env : List SP) (i : Nat) (vs : List (Int × Bool)) : Int × Bool := match env[i]? with
  | some x => if x.kind = 2 ∧ validX x.e then valX (env.take i) vs x.e else (0, false)
  | none => (0, false)
def valsP (env : List SP) : Nat → List (Int × Bool)
  | 0 => []
  | n + 1 => valsP env n ++ [stepV env n (valsP env n)]
theorem valsP_len (env : List SP) : ∀ n, (valsP env n).length = n
  | 0 => rfl
  | n + 1 => by rw [valsP, List.length_append, valsP_len env n]; rfl
structure SpecsOk (env : List SP) : Prop where
  size : env.length ≤ 1000000
  names : ∀ x, x ∈ env → x.names.length ≤ 281474976710656
  dims : ∀ x, x ∈ env → i64 x.dim
  exprs : ∀ x, x ∈ env → wfX x.e
theorem valsP_ok (env : List SP) (ok : SpecsOk env) : ∀ n, n ≤ env.length → EnvOk (env.take n) (valsP env n)
  | 0, _ => ⟨rfl, by simp, fun x hx => by simp at hx, fun x hx => by simp [valsP] at hx, fun x hx => by simp at hx⟩
  | n + 1, h => by
    have ih := valsP_ok env ok n (by omega)
    have hs := ok.size
    refine ⟨by rw [valsP_len, List.length_take]; omega, by rw [List.length_take]; omega, fun x hx => ok.names x (List.mem_of_mem_take hx), fun x hx => ?_, fun x hx => ok.dims x (List.mem_of_mem_take hx)⟩
    rw [valsP] at hx
    rcases List.mem_append.1 hx with hx | hx
    · exact ih.vals x hx
    · rw [List.mem_singleton.1 hx]
      unfold stepV
      split
      · rename_i y hy
        split
        · exact valX_in _ _ ih _ (ok.exprs y (List.mem_of_getElem? hy))
        · exact zero_in
      · exact zero_in
theorem within_p (m : Int) (env : List SP) (ok : SpecsOk env) : Pure Try.prog (gsM m) 20 [specsA env] (scopeA env (valsP env env.length)) := by
  have hs := ok.size
  refine Pure.of (S := tt) (fn := Try.f20) (n := 38) tt_ok Try.func20 rfl rfl rfl rfl fun w0 h0 F hgs => ?_
  (repeat first|refine A.s rfl ?_|refine A.r rfl rfl ?_|refine A.w rfl rfl ?_|refine A.p rfl ?_|refine A.b rfl fun bx=>?_|refine A.t rfl fun bl=>?_|refine A.step rfl ?_|refine A.v rfl rfl ?_)
  refine A.valE 8 rfl (x' := AI (env.length : Nat)) (ai_eq (by rw [List.length_map])) ?_
  refine A.makeV rfl rfl rfl rfl rfl rfl rfl rfl rfl rfl rfl rfl (by omega) ?_ (by omega) fun a c hca => ?_
  · show (8 : Int) * _ ≤ _; omega
  (repeat first|refine A.s rfl ?_|refine A.r rfl rfl ?_|refine A.w rfl rfl ?_|refine A.p rfl ?_|refine A.b rfl fun bx=>?_|refine A.t rfl fun bl=>?_|refine A.step rfl ?_|refine A.v rfl rfl ?_)
  refine A.valE 12 rfl (x' := AI (env.length : Nat)) (ai_eq (by rw [List.length_map])) ?_
  refine A.entsEq (Λ' := [.box bx (.ag [specsA env, .ms (.slice a env.length c) 2 env.length]), .row 2 (.slice a env.length c) (((valsP env 0) ++ List.replicate (env.length - 0) (0, false)).map valA), .box _ (.ag [.v (.slice none 0 0), .v (.slice none 0 0)])]) (by rw [valsP, List.nil_append, List.map_replicate]; rfl) ?_
  refine A.keep [2, 3, 11, 12, 13] rfl ?_
  refine A.loopP (ι := Nat) (fun i => (⟨[(2, .v (.pointer (some ⟨_, 0, none⟩))), (3, .v (.pointer (some ⟨bx, 0, none⟩))), (11, specsA env), (12, AI (env.length : Nat)), (13, AI (i : Int))], []⟩, [.box bx (.ag [specsA env, .ms (.slice a env.length c) 2 env.length]), .row 2 (.slice a env.length c) (((valsP env i) ++ List.replicate (env.length - i) (0, false)).map valA), .box _ (.ag [.v (.slice none 0 0), .v (.slice none 0 0)])]))
    (fun i => i ≤ env.length) (fun i => env.length - i) 0 (Nat.zero_le _) rfl fun i hi ih => ?_
  (repeat first|refine A.s rfl ?_|refine A.r rfl rfl ?_|refine A.w rfl rfl ?_|refine A.p rfl ?_|refine A.b rfl fun bx=>?_|refine A.t rfl fun bl=>?_|refine A.step rfl ?_|refine A.v rfl rfl ?_)
  refine A.cond rfl (fun hc => ?_) (fun hc => ?_)
  · simp at hc
    refine Exists.elim (at_exN (l := env) (i := i) hc) fun x hx => ?_
    have hxm := List.mem_of_getElem? hx
    have hmy := emay_p m x.e (ok.exprs x hxm)
    have hun := (until_p env a env.length c i (by omega) (by have : (env.length : Int).toNat = env.length := rfl; omega)).any (gs := gsM m)
    (repeat first|refine A.s rfl ?_|refine A.r rfl rfl ?_|refine A.w rfl rfl ?_|refine A.p rfl ?_|refine A.b rfl fun bx=>?_|refine A.t rfl fun bl=>?_|refine A.step rfl ?_|refine A.v rfl rfl ?_)
    refine A.x rfl (by omega) (map_at hx) rfl rfl ?_
    rw [encX_eq] at hmy
    have hkeep : ∀ v, stepV env i (valsP env i) = v → (List.map valA (valsP env i ++ List.replicate (env.length - i) (0, false))).set i (valA v) = List.map valA (valsP env (i + 1) ++ List.replicate (env.length - (i + 1)) (0, false)) := fun v hv => by
      rw [← List.map_set, valsP, hv]
      congr 1
      rw [List.set_append_right _ _ (by rw [valsP_len]; omega), valsP_len, Nat.sub_self, show env.length - i = (env.length - (i + 1)) + 1 by omega, List.replicate_succ, List.set_cons_zero, List.append_assoc]
      rfl
    have hsame : stepV env i (valsP env i) = (0, false) → List.map valA (valsP env i ++ List.replicate (env.length - i) (0, false)) = List.map valA (valsP env (i + 1) ++ List.replicate (env.length - (i + 1)) (0, false)) := fun hv => by
      rw [valsP, hv, show env.length - i = (env.length - (i + 1)) + 1 by omega, List.replicate_succ, List.append_assoc]
      rfl
    by_cases hk : x.kind = 2
    · (repeat first|refine A.s rfl ?_|refine A.r rfl rfl ?_|refine A.w rfl rfl ?_|refine A.p rfl ?_|refine A.b rfl fun bx=>?_|refine A.t rfl fun bl=>?_)
      refine A.valE 21 rfl (x' := AB true) (ab_eq (by simp [hk])) ?_
      (repeat first|refine A.s rfl ?_|refine A.r rfl rfl ?_|refine A.w rfl rfl ?_|refine A.p rfl ?_|refine A.b rfl fun bx=>?_|refine A.t rfl fun bl=>?_)
      refine A.c rfl hmy .refl ?_
      (repeat first|refine A.s rfl ?_|refine A.r rfl rfl ?_|refine A.w rfl rfl ?_|refine A.p rfl ?_|refine A.b rfl fun bx=>?_|refine A.t rfl fun bl=>?_)
      by_cases hvd : validX x.e
      · refine A.valE 25 rfl (x' := AB true) (ab_eq (by simp [hvd])) ?_
        (repeat first|refine A.s rfl ?_|refine A.r rfl rfl ?_|refine A.w rfl rfl ?_|refine A.p rfl ?_|refine A.b rfl fun bx=>?_|refine A.t rfl fun bl=>?_)
        have hvp := (fvalue_p (env.take i) (valsP env i) (valsP_ok env ok i hi) (htX x.e) x.e (Nat.le_refl _) (ok.exprs x hxm) hvd.1).any (gs := gsM m)
        rw [encX_eq] at hvp
        have hst : stepV env i (valsP env i) = valX (env.take i) (valsP env i) x.e := by unfold stepV; rw [hx]; exact if_pos ⟨hk, hvd⟩
        have hlent := Pure.lent (Λ := [.row 2 (.slice a env.length c) (List.map valA (valsP env i ++ List.replicate (env.length - i) (0, false)))]) Try.func21 rfl rfl hvp rfl
          (LtL.cons (Lt.ag (LtL.cons (Lt.sub .refl) (LtL.cons (Lt.rowPart (l := 0) (n := i) (List.mem_singleton.2 rfl) (Nat.zero_le _) (by rw [List.length_map, List.length_append, valsP_len, List.length_replicate]; omega)
            (by rw [List.drop_zero, Nat.sub_zero, ← List.map_take, List.take_left' (valsP_len env i)])) LtL.nil))) (LtL.cons (Lt.sub .refl) LtL.nil))
        refine A.draw 9 [0, 1, 2, 3, 4, 6, 7, 5, 8] noPubs [(5, scopeV (env.take i) (partV 2 0 i (.slice a env.length c))), (8, valA (valX (env.take i) (valsP env i) x.e))] (by kernel_rfl) (by kernel_rfl) ?_
        (repeat first|refine WA.s rfl ?_|refine WA.r rfl rfl ?_|refine WA.p rfl ?_|refine WA.step rfl ?_|refine WA.v rfl rfl ?_)
        refine WA.c rfl rfl hun (.sub (SbL.cons (Sb.ag (SbL.cons .refl (SbL.cons .ms .refl))) .refl)) ?_
        refine WA.callF rfl rfl rfl rfl rfl rfl rfl rfl rfl rfl hlent (.sub .refl) (AOut.perm (x := .row 2 (.slice a env.length c) _)) ?_
        refine WA.nil (l := []) rfl ?_
        (repeat first|refine A.s rfl ?_|refine A.r rfl rfl ?_|refine A.w rfl rfl ?_|refine A.p rfl ?_|refine A.b rfl fun bx=>?_|refine A.t rfl fun bl=>?_)
        refine A.indexRow rfl rfl rfl rfl rfl rfl rfl rfl (by omega) (by rw [List.length_map, List.length_append, valsP_len, List.length_replicate]; omega) rfl ?_
        (repeat first|refine A.s rfl ?_|refine A.r rfl rfl ?_|refine A.w rfl rfl ?_|refine A.p rfl ?_|refine A.b rfl fun bx=>?_|refine A.t rfl fun bl=>?_)
        refine A.storeRow rfl rfl rfl rfl rfl rfl rfl rfl rfl (by rw [List.length_map, List.length_append, valsP_len, List.length_replicate]; omega) (xs' := List.map valA (valsP env (i + 1) ++ List.replicate (env.length - (i + 1)) (0, false))) (hkeep _ hst) ?_
        ((repeat first|refine A.s rfl ?_|refine A.r rfl rfl ?_|refine A.w rfl rfl ?_|refine A.p rfl ?_|refine A.b rfl fun bx=>?_|refine A.t rfl fun bl=>?_); refine A.valE 13 rfl (x' := AI ((i + 1 : Nat) : Int)) (inc_eq i (by omega)) ?_; refine A.less (Λ' := [.box _ (.ag [specsA env, .ms (.slice a env.length c) 2 env.length]), .row 2 (.slice a env.length c) (((valsP env (i + 1)) ++ List.replicate (env.length - (i + 1)) (0, false)).map valA), .box _ (.ag [.v (.slice none 0 0), .v (.slice none 0 0)])]) (by repeat (first | exact List.Sublist.refl _ | apply List.Sublist.cons_cons | apply List.Sublist.cons)) ?_; refine A.sub (by repeat (first | exact trivial | refine ⟨⟨_, rfl, .refl⟩, ?_⟩)) (ih (i + 1) (by omega) (by omega)))
      · have hst : stepV env i (valsP env i) = (0, false) := by unfold stepV; rw [hx]; exact if_neg (fun h => hvd h.2)
        refine A.valE 25 rfl (x' := AB false) (ab_eq (by simp [hvd])) ?_
        (repeat first|refine A.s rfl ?_|refine A.r rfl rfl ?_|refine A.w rfl rfl ?_|refine A.p rfl ?_|refine A.b rfl fun bx=>?_|refine A.t rfl fun bl=>?_)
        refine A.entsEq (by rw [hsame hst]) ?_
        ((repeat first|refine A.s rfl ?_|refine A.r rfl rfl ?_|refine A.w rfl rfl ?_|refine A.p rfl ?_|refine A.b rfl fun bx=>?_|refine A.t rfl fun bl=>?_); refine A.valE 13 rfl (x' := AI ((i + 1 : Nat) : Int)) (inc_eq i (by omega)) ?_; refine A.less (Λ' := [.box _ (.ag [specsA env, .ms (.slice a env.length c) 2 env.length]), .row 2 (.slice a env.length c) (((valsP env (i + 1)) ++ List.replicate (env.length - (i + 1)) (0, false)).map valA), .box _ (.ag [.v (.slice none 0 0), .v (.slice none 0 0)])]) (by repeat (first | exact List.Sublist.refl _ | apply List.Sublist.cons_cons | apply List.Sublist.cons)) ?_; refine A.sub (by repeat (first | exact trivial | refine ⟨⟨_, rfl, .refl⟩, ?_⟩)) (ih (i + 1) (by omega) (by omega)))
    · have hst : stepV env i (valsP env i) = (0, false) := by unfold stepV; rw [hx]; exact if_neg (fun h => hk h.1)
      (repeat first|refine A.s rfl ?_|refine A.r rfl rfl ?_|refine A.w rfl rfl ?_|refine A.p rfl ?_|refine A.b rfl fun bx=>?_|refine A.t rfl fun bl=>?_)
      refine A.valE 21 rfl (x' := AB false) (ab_eq (by simp [hk])) ?_
      (repeat first|refine A.s rfl ?_|refine A.r rfl rfl ?_|refine A.w rfl rfl ?_|refine A.p rfl ?_|refine A.b rfl fun bx=>?_|refine A.t rfl fun bl=>?_)
      refine A.entsEq (by rw [hsame hst]) ?_
      ((repeat first|refine A.s rfl ?_|refine A.r rfl rfl ?_|refine A.w rfl rfl ?_|refine A.p rfl ?_|refine A.b rfl fun bx=>?_|refine A.t rfl fun bl=>?_); refine A.valE 13 rfl (x' := AI ((i + 1 : Nat) : Int)) (inc_eq i (by omega)) ?_; refine A.less (Λ' := [.box _ (.ag [specsA env, .ms (.slice a env.length c) 2 env.length]), .row 2 (.slice a env.length c) (((valsP env (i + 1)) ++ List.replicate (env.length - (i + 1)) (0, false)).map valA), .box _ (.ag [.v (.slice none 0 0), .v (.slice none 0 0)])]) (by repeat (first | exact List.Sublist.refl _ | apply List.Sublist.cons_cons | apply List.Sublist.cons)) ?_; refine A.sub (by repeat (first | exact trivial | refine ⟨⟨_, rfl, .refl⟩, ?_⟩)) (ih (i + 1) (by omega) (by omega)))
  · simp at hc
    have : i = env.length := by omega
    subst this
    have hfin : List.map valA (valsP env env.length ++ List.replicate (env.length - env.length) (0, false)) = List.map valA (valsP env env.length) := by rw [Nat.sub_self]; simp
    refine A.entsEq (by rw [hfin]) ?_
    refine A.freezeRowV 3 (.slice a env.length c) (x' := scopeA env (valsP env env.length)) rfl (by repeat (first | exact Fz.ms | apply Fz.ag | apply FzL.cons | exact FzL.sub .refl | exact Fz.sub .refl)) ?_
    (repeat first|refine A.s rfl ?_|refine A.r rfl rfl ?_|refine A.w rfl rfl ?_|refine A.p rfl ?_|refine A.b rfl fun bx=>?_|refine A.t rfl fun bl=>?_|refine A.step rfl ?_|refine A.v rfl rfl ?_)
    refine A.retC (Λ' := []) rfl rfl rfl rfl rfl (List.nil_sublist _) ⟨?_, rfl⟩; exact .refl
end Go.Proofs.Ytbdjbmbghfbenaa
