/-
  Layer 14: names in an environment.
-/
import Derived.Test.YtbdjbmbghfbenaaQ10b
import Derived.Test.YtbdjbmbghfbenaaQ0i
import Derived.Test.YtbdjbmbghfbenaaLc

namespace Go.Proofs.Ytbdjbmbghfbenaa
open Go Go.Tp
set_option linter.unusedVariables false
set_option linter.unusedSimpArgs false
set_option maxRecDepth 100000
set_option maxHeartbeats 4000000

/-- a specification; what the fold never looks at, as it stands -/
structure SP where
  kind : Int
  tk : Int
  dim : Int
  item : Int
  tp : List UInt8
  names : List (List UInt8)
  e : XE
  r1 : Value
  r2 : Value
  r3 : Value
  r4 : Value
abbrev namesA (l : List (List UInt8)) : AV := .sl 1 (l.map AS) none
abbrev encS (x : SP) : AV := .ag [AU8 x.kind, AU8 x.tk, AI x.dim, AU8 x.item, AS x.tp, namesA x.names, AU8 x.e.kind, AU8 x.e.oper, AU8 x.e.to, AI32 x.e.n, AS x.e.s, .sl 6 (encXl x.e.l) none, .v x.r1, .v x.r2, .v x.r3, .v x.r4]
abbrev specsA (l : List SP) : AV := .sl 16 (l.map encS) none

theorem index_p (l : List (List UInt8)) (s : List UInt8) (hb : l.length ≤ 281474976710656) : Pure Try.prog gs0 60 [namesA l, AS s] (AI (idxF (fun x => s == x) l 0)) := by
  refine Pure.of (S := tt) (fn := Try.f60) (n := 19) tt_ok Try.func60 rfl rfl rfl rfl fun w0 h0 F hgs => ?_
  (repeat first|refine A.s rfl ?_|refine A.r rfl rfl ?_|refine A.w rfl rfl ?_|refine A.p rfl ?_|refine A.b rfl fun bx=>?_|refine A.t rfl fun bl=>?_|refine A.step rfl ?_|refine A.v rfl rfl ?_); refine A.valE 7 rfl (x' := AI (l.length : Nat)) (ai_eq (by rw [List.length_map])) ?_
  refine A.keep [0, 1, 7, 8] rfl ?_
  refine A.loopP (ι := Nat) (fun i => (⟨[(0, namesA l), (1, AS s), (7, AI (l.length : Nat)), (8, AI (i : Int))], []⟩, [])) (fun i => i ≤ l.length ∧ idxF (fun x => s == x) l 0 = idxF (fun x => s == x) (l.drop i) i) (fun i => l.length - i) 0 ⟨by omega, rfl⟩ rfl fun i hi ih => ?_
  (repeat first|refine A.s rfl ?_|refine A.r rfl rfl ?_|refine A.w rfl rfl ?_|refine A.p rfl ?_|refine A.b rfl fun bx=>?_|refine A.t rfl fun bl=>?_|refine A.step rfl ?_|refine A.v rfl rfl ?_)
  refine A.cond rfl (fun hc => ?_) (fun hc => ?_)
  · simp at hc
    refine Exists.elim (at_exN (l := l) (i := i) hc) fun x hx => ?_
    (repeat first|refine A.s rfl ?_|refine A.r rfl rfl ?_|refine A.w rfl rfl ?_|refine A.p rfl ?_|refine A.b rfl fun bx=>?_|refine A.t rfl fun bl=>?_|refine A.step rfl ?_|refine A.v rfl rfl ?_)
    refine A.x rfl (by omega) (map_at hx) rfl rfl ?_
    (repeat first|refine A.s rfl ?_|refine A.r rfl rfl ?_|refine A.w rfl rfl ?_|refine A.p rfl ?_|refine A.b rfl fun bx=>?_|refine A.t rfl fun bl=>?_|refine A.step rfl ?_|refine A.v rfl rfl ?_)
    have h1 := hi.2
    rw [drop_at hx, idxF] at h1
    cases hp : s == x with
    | true =>
      rw [hp] at h1
      refine A.valE 16 rfl (x' := AB true) (ab_eq (by rw [bs_eq]; exact hp)) ?_
      (repeat first|refine A.s rfl ?_|refine A.r rfl rfl ?_|refine A.w rfl rfl ?_|refine A.p rfl ?_|refine A.b rfl fun bx=>?_|refine A.t rfl fun bl=>?_|refine A.step rfl ?_|refine A.v rfl rfl ?_); refine A.ret1 (Λ' := []) rfl rfl rfl (List.nil_sublist _) ⟨?_, rfl⟩; rw [h1]; exact .refl
    | false =>
      rw [hp] at h1
      refine A.valE 16 rfl (x' := AB false) (ab_eq (by rw [bs_eq]; exact hp)) ?_
      (repeat first|refine A.s rfl ?_|refine A.r rfl rfl ?_|refine A.w rfl rfl ?_|refine A.p rfl ?_|refine A.b rfl fun bx=>?_|refine A.t rfl fun bl=>?_|refine A.step rfl ?_|refine A.v rfl rfl ?_)
      refine A.valE 8 rfl (x' := AI ((i + 1 : Nat) : Int)) (inc_eq i (by omega)) ?_
      refine A.sub (by repeat (first | exact trivial | refine ⟨⟨_, rfl, .refl⟩, ?_⟩)) (ih (i + 1) ⟨by omega, h1⟩ (by omega))
  · simp at hc
    have : i = l.length := by omega
    subst this
    (repeat first|refine A.s rfl ?_|refine A.r rfl rfl ?_|refine A.w rfl rfl ?_|refine A.p rfl ?_|refine A.b rfl fun bx=>?_|refine A.t rfl fun bl=>?_|refine A.step rfl ?_|refine A.v rfl rfl ?_); refine A.ret1 (Λ' := []) rfl rfl rfl (List.nil_sublist _) ⟨?_, rfl⟩; rw [hi.2, List.drop_length]; exact .refl
theorem names_p (l : List (List UInt8)) (s : List UInt8) (hb : l.length ≤ 281474976710656) : Pure Try.prog gs0 49 [namesA l, AS s] (AB (l.any (fun x => s == x))) := by
  refine Pure.of (S := tt) (fn := Try.f49) (n := 9) tt_ok Try.func49 rfl rfl rfl rfl fun w0 h0 F hgs => ?_
  (repeat first|refine A.s rfl ?_|refine A.r rfl rfl ?_|refine A.w rfl rfl ?_|refine A.p rfl ?_|refine A.b rfl fun bx=>?_|refine A.t rfl fun bl=>?_|refine A.step rfl ?_|refine A.v rfl rfl ?_)
  refine A.c rfl (index_p l s hb) .refl ?_
  (repeat first|refine A.s rfl ?_|refine A.r rfl rfl ?_|refine A.w rfl rfl ?_|refine A.p rfl ?_|refine A.b rfl fun bx=>?_|refine A.t rfl fun bl=>?_|refine A.step rfl ?_|refine A.v rfl rfl ?_); refine A.ret1 (Λ' := []) rfl rfl rfl (List.nil_sublist _) ⟨?_, rfl⟩; refine Sb.eq (ab_eq ?_); exact idxF_any _ l 0

/-- the last specification of a name among the first n -/
def findB (env : List SP) (s : List UInt8) : Nat → Int
  | 0 => -1
  | n + 1 => match env[n]? with
    | some x => if x.names.any (fun y => s == y) then (n : Int) else findB env s n
    | none => findB env s n
theorem findB_at {env : List SP} {s : List UInt8} {n : Nat} {x : SP} (h : env[n]? = some x) : findB env s (n + 1) = if x.names.any (fun y => s == y) then (n : Int) else findB env s n := by rw [findB, h]

abbrev backA (l : List SP) : AV := .fn 59 [] [.pe 1 (specsA l)]
theorem back_p (l : List SP) : Pure Try.prog gs0 48 [specsA l] (backA l) := by
  refine Pure.of (S := tt) (fn := Try.f48) (n := 4) tt_ok Try.func48 rfl rfl rfl rfl fun w0 h0 F hgs => ?_
  (repeat refine A.s rfl ?_)
  refine A.b rfl fun bx => ?_
  refine A.freeze 1 rfl rfl rfl ?_
  (repeat first|refine A.s rfl ?_|refine A.r rfl rfl ?_|refine A.w rfl rfl ?_|refine A.p rfl ?_|refine A.b rfl fun bx=>?_|refine A.t rfl fun bl=>?_|refine A.step rfl ?_|refine A.v rfl rfl ?_); refine A.ret1 (Λ' := []) rfl rfl rfl (List.nil_sublist _) ⟨?_, rfl⟩; exact .refl
/-- a value that may lack -/
abbrev valA (x : Int × Bool) : AV := .ag [AI32 x.1, AB x.2]
abbrev valsA (l : List (Int × Bool)) : AV := .sl 2 (l.map valA) none
abbrev scopeA (env : List SP) (vals : List (Int × Bool)) : AV := .ag [specsA env, valsA vals]
theorem find_p (env : List SP) (vals : List (Int × Bool)) (s : List UInt8) (hb : env.length ≤ 281474976710656) (hn : ∀ x, x ∈ env → x.names.length ≤ 281474976710656) :
    Pure Try.prog gs0 36 [scopeA env vals, AS s] (AI (findB env s env.length)) := by
  have hbk := back_p env
  refine Pure.of (S := tt) (fn := Try.f36) (n := 19) tt_ok Try.func36 rfl rfl rfl rfl fun w0 h0 F hgs => ?_
  (repeat first|refine A.s rfl ?_|refine A.r rfl rfl ?_|refine A.w rfl rfl ?_|refine A.p rfl ?_|refine A.b rfl fun bx=>?_|refine A.t rfl fun bl=>?_|refine A.step rfl ?_|refine A.v rfl rfl ?_)
  refine A.c rfl hbk .refl ?_
  (repeat first|refine A.s rfl ?_|refine A.r rfl rfl ?_|refine A.w rfl rfl ?_|refine A.p rfl ?_|refine A.b rfl fun bx=>?_|refine A.t rfl fun bl=>?_|refine A.step rfl ?_|refine A.v rfl rfl ?_)
  refine A.keep [3, 5, 10] rfl ?_
  refine A.rangeFunc rfl Try.func59 rfl rfl rfl rfl fun h1 hg1 r tm hle htm => ?_
  (repeat first|refine A.s rfl ?_|refine A.r rfl rfl ?_|refine A.w rfl rfl ?_|refine A.p rfl ?_|refine A.b rfl fun bx=>?_|refine A.t rfl fun bl=>?_|refine A.step rfl ?_|refine A.v rfl rfl ?_)
  refine A.valE 3 rfl (x' := AI ((env.length : Nat) - 1 : Int)) (by rw [List.length_map]; exact ai_eq (w64_id (by unfold i64; omega))) ?_
  refine A.keep [0, 1, 3] rfl ?_
  refine A.loopP (ι := Nat) (fun j => (⟨[(0, .v (.func (.yield (r + 1)) #[] #[])), (1, .pe 1 (specsA env)), (3, AI ((j : Int) - 1))], []⟩, _)) (fun j => j ≤ env.length ∧ findB env s env.length = findB env s j) (fun j => j) env.length ⟨by omega, rfl⟩ rfl fun j hj ih => ?_
  (repeat first|refine A.s rfl ?_|refine A.r rfl rfl ?_|refine A.w rfl rfl ?_|refine A.p rfl ?_|refine A.b rfl fun bx=>?_|refine A.t rfl fun bl=>?_|refine A.step rfl ?_|refine A.v rfl rfl ?_)
  refine A.cond rfl (fun hc => ?_) (fun hc => ?_)
  · simp at hc
    obtain ⟨j, rfl⟩ : ∃ i, j = i + 1 := ⟨j - 1, by omega⟩
    refine Exists.elim (at_exN (l := env) (i := j) (by omega)) fun x hx => ?_
    refine A.valE 3 rfl (x' := AI (j : Int)) (ai_eq (by omega)) ?_
    (repeat first|refine A.s rfl ?_|refine A.r rfl rfl ?_|refine A.w rfl rfl ?_|refine A.p rfl ?_|refine A.b rfl fun bx=>?_|refine A.t rfl fun bl=>?_|refine A.step rfl ?_|refine A.v rfl rfl ?_)
    refine A.x rfl (by omega) (map_at hx) rfl rfl ?_
    (repeat first|refine A.s rfl ?_|refine A.r rfl rfl ?_|refine A.w rfl rfl ?_|refine A.p rfl ?_|refine A.b rfl fun bx=>?_|refine A.t rfl fun bl=>?_|refine A.step rfl ?_|refine A.v rfl rfl ?_)
    refine A.yield rfl rfl rfl rfl rfl rfl rfl rfl rfl htm rfl rfl Try.func36 fun h2 hg2 hle2 => ?_
    (repeat first|refine A.s rfl ?_|refine A.r rfl rfl ?_|refine A.w rfl rfl ?_|refine A.p rfl ?_|refine A.b rfl fun bx=>?_|refine A.t rfl fun bl=>?_|refine A.step rfl ?_|refine A.v rfl rfl ?_)
    refine A.begin rfl rfl rfl ?_
    (repeat first|refine A.s rfl ?_|refine A.r rfl rfl ?_|refine A.w rfl rfl ?_|refine A.p rfl ?_|refine A.b rfl fun bx=>?_|refine A.t rfl fun bl=>?_|refine A.step rfl ?_|refine A.v rfl rfl ?_)
    refine A.c rfl (names_p x.names s (hn x (List.mem_of_getElem? hx))) .refl ?_
    have h3 := hj.2
    rw [findB_at hx] at h3
    refine A.split 16 rfl (fun hf => ?_) (fun hf => ?_)
    · rw [if_pos hf] at h3
      (repeat first|refine A.s rfl ?_|refine A.r rfl rfl ?_|refine A.w rfl rfl ?_|refine A.p rfl ?_|refine A.b rfl fun bx=>?_|refine A.t rfl fun bl=>?_|refine A.step rfl ?_|refine A.v rfl rfl ?_)
      refine A.roundExit rfl rfl rfl ?_
      show A _ _ _ _
      (repeat first|refine A.s rfl ?_|refine A.r rfl rfl ?_|refine A.w rfl rfl ?_|refine A.p rfl ?_|refine A.b rfl fun bx=>?_|refine A.t rfl fun bl=>?_|refine A.step rfl ?_|refine A.v rfl rfl ?_)
      refine A.rangeEnd rfl rfl rfl rfl (by decide) ?_
      (repeat first|refine A.s rfl ?_|refine A.r rfl rfl ?_|refine A.w rfl rfl ?_|refine A.p rfl ?_|refine A.b rfl fun bx=>?_|refine A.t rfl fun bl=>?_|refine A.step rfl ?_|refine A.v rfl rfl ?_); refine A.ret1 (Λ' := []) rfl rfl rfl (List.nil_sublist _) ⟨?_, rfl⟩; rw [h3]; exact .refl
    · rw [if_neg (by rw [hf]; decide)] at h3
      (repeat first|refine A.s rfl ?_|refine A.r rfl rfl ?_|refine A.w rfl rfl ?_|refine A.p rfl ?_|refine A.b rfl fun bx=>?_|refine A.t rfl fun bl=>?_|refine A.step rfl ?_|refine A.v rfl rfl ?_)
      refine A.roundEnd rfl rfl ?_
      show A _ _ _ _
      (repeat first|refine A.s rfl ?_|refine A.r rfl rfl ?_|refine A.w rfl rfl ?_|refine A.p rfl ?_|refine A.b rfl fun bx=>?_|refine A.t rfl fun bl=>?_|refine A.step rfl ?_|refine A.v rfl rfl ?_)
      refine A.valE 3 rfl (x' := AI ((j : Int) - 1)) (ai_eq (w64_id (by unfold i64; omega))) ?_
      refine A.less (Λ' := .loop _ _ _ _ :: .box _ (AI (-1)) :: .box _ (AS s) :: .box _ (scopeA env vals) :: []) (by repeat (first | exact List.Sublist.refl _ | apply List.Sublist.cons_cons | apply List.Sublist.cons)) ?_
      refine A.sub (by repeat (first | exact trivial | refine ⟨⟨_, rfl, .refl⟩, ?_⟩)) (ih j ⟨by omega, h3⟩ (by omega))
  · simp at hc
    have : j = 0 := by omega
    subst this
    (repeat first|refine A.s rfl ?_|refine A.r rfl rfl ?_|refine A.w rfl rfl ?_|refine A.p rfl ?_|refine A.b rfl fun bx=>?_|refine A.t rfl fun bl=>?_|refine A.step rfl ?_|refine A.v rfl rfl ?_)
    refine A.rangeEnd rfl rfl rfl rfl (by decide) ?_
    (repeat first|refine A.s rfl ?_|refine A.r rfl rfl ?_|refine A.w rfl rfl ?_|refine A.p rfl ?_|refine A.b rfl fun bx=>?_|refine A.t rfl fun bl=>?_|refine A.step rfl ?_|refine A.v rfl rfl ?_); refine A.ret1 (Λ' := []) rfl rfl rfl (List.nil_sublist _) ⟨?_, rfl⟩; rw [hj.2]; exact .refl
end Go.Proofs.Ytbdjbmbghfbenaa
