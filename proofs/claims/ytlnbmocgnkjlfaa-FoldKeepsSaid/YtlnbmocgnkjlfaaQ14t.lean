/-
  Chapter 14: FoldKeeps.
-/
import Derived.Test.YtlnbmocgnkjlfaaQ14s

namespace Go.Proofs.Ytlnbmocgnkjlfaa
open Go Go.Tp
set_option linter.unusedVariables false
set_option linter.unusedSimpArgs false
set_option maxRecDepth 100000
set_option maxHeartbeats 4000000

/-- what one name brings -/
def newS (env : List SP) (s : Option (List UInt8)) (x : Option Int) : List SP := match s, x with
  | some s, some x => if declB env s then [] else [valS s (numX x)]
  | _, _ => []
/-- the constants for the first names -/
def newsM (env : List SP) (more : List Int) (names : List (List UInt8)) : Nat → List SP
  | 0 => []
  | i + 1 => newsM env more names i ++ newS env names[i]? more[i]?
theorem newS_mem {env : List SP} {s : Option (List UInt8)} {x : Option Int} {y : SP} (h : y ∈ newS env s x) : ∃ s' x', s = some s' ∧ x = some x' ∧ declB env s' = false ∧ y = valS s' (numX x') := by
  unfold newS at h
  split at h
  · split at h
    · cases h
    · rename_i s' x' hd
      exact ⟨s', x', rfl, rfl, by simpa using hd, List.mem_singleton.1 h⟩
  · cases h
theorem newS_len (env : List SP) (s : Option (List UInt8)) (x : Option Int) : (newS env s x).length ≤ 1 := by
  unfold newS
  split
  · split <;> simp
  · simp
theorem newsM_len (env : List SP) (more : List Int) (names : List (List UInt8)) : ∀ i, (newsM env more names i).length ≤ i
  | 0 => Nat.le_refl _
  | i + 1 => by
    have h1 := newsM_len env more names i
    have h2 := newS_len env names[i]? more[i]?
    rw [newsM, List.length_append]; omega
theorem newsM_mem (env : List SP) (more : List Int) (names : List (List UInt8)) : ∀ i y, y ∈ newsM env more names i → ∃ s x, s ∈ names ∧ x ∈ more ∧ declB env s = false ∧ y = valS s (numX x)
  | 0, y, h => by cases h
  | i + 1, y, h => by
    rw [newsM] at h
    rcases List.mem_append.1 h with h | h
    · exact newsM_mem env more names i y h
    · obtain ⟨s, x, h1, h2, h3, h4⟩ := newS_mem h
      exact ⟨s, x, List.mem_of_getElem? h1, List.mem_of_getElem? h2, h3, h4⟩
section
variable (env : List SP) (more : List Int) (names : List (List UInt8)) (n : Nat)
theorem on_ok (ok : SpecsOk env) (h1 : env.length ≤ 200) (h2 : n ≤ 1000) (hm : ∀ x, x ∈ more → i32 x) : SpecsOk (env ++ newsM env more names n) := by
  have hl := newsM_len env more names n
  have key : ∀ y, y ∈ newsM env more names n → y.names.length ≤ 1 ∧ i64 y.dim ∧ wfX y.e := fun y hy => by
    obtain ⟨s, x, _, hx, _, rfl⟩ := newsM_mem env more names n y hy
    exact ⟨Nat.le_refl 1, by show i64 0; unfold i64; omega, by simp [wfX, wfXl, u8, hm x hx]⟩
  refine ⟨by rw [List.length_append]; omega, fun x hx => ?_, fun x hx => ?_, fun x hx => ?_⟩
  all_goals rcases List.mem_append.1 hx with hx | hx
  · exact ok.names x hx
  · have := (key x hx).1; omega
  · exact ok.dims x hx
  · exact (key x hx).2.1
  · exact ok.exprs x hx
  · exact (key x hx).2.2
theorem keeps (e : XE) (hv : validX e) : constE (env ++ newsM env more names n) (foldE env e) = constE (env ++ newsM env more names n) e := by
  have h1 := foldX_valid env (valsP env env.length) hv
  have hk : ∀ x : XE, (valX env (valsP env env.length) x).2 = true → valX (env ++ newsM env more names n) (valsP (env ++ newsM env more names n) (env ++ newsM env more names n).length) x = valX env (valsP env env.length) x :=
    valX_on env _ _ _ (valsP_len env _) (fun i hi => by
      rw [valsP_at _ 0 _ i (by rw [List.length_append]; omega), valsP_at env 0 _ i hi, valsP_pre env _ i (by omega), stepV_pre env _ i _ hi]) (fun x y s hx hy hs => by
      obtain ⟨s', z, _, _, hd, rfl⟩ := newsM_mem env more names n y hy
      show ([s'].any fun z => s == z) = false
      cases hc : s == s' with
      | false => simp [hc]
      | true =>
        have : s = s' := by simpa using hc
        subst this
        have : declB env s = true := List.any_eq_true.2 ⟨x, hx, hs⟩
        rw [hd] at this; cases this)
  have h2 : valE (env ++ newsM env more names n) (foldE env e) = valE (env ++ newsM env more names n) e := foldX_val env _ _ _ hk e
  rw [constE, constE, if_pos hv, if_pos (show validX (foldE env e) from h1), h2]
end
theorem keeps_law (m : Int) (env : List SP) (hb : env.length ≤ 281474976710656) (hd : ∀ x, x ∈ env → i64 x.dim) (he : ∀ x, x ∈ env → wfX x.e) (e : XE) (hw : wfX e) (more : List Int) (hm : ∀ x, x ∈ more → i32 x) (hml : more.length ≤ 281474976710656) :
    Pure Try.prog (gsM m) 8 [encX e, specsA env, .sl 1 (more.map AI32) none] (AB true) := by
  have g1 := (great14_p env hb).any (gs := gsM m)
  have hmy := emay_p m e hw
  have hlm : ((more.map AI32).length : Int) = more.length := by rw [List.length_map]
  rw [encX_eq e] at hmy ⊢
  cases hg : great14 env with
  | true =>
    rw [hg] at g1
    refine Pure.of (S := tt) (fn := Try.f8) (n := 101) tt_ok Try.func8 rfl rfl rfl rfl fun w0 h0 F hgs => ?_
    (repeat first|refine A.s rfl ?_|refine A.r rfl rfl ?_|refine A.w rfl rfl ?_|refine A.p rfl ?_|refine A.b rfl fun bx=>?_|refine A.t rfl fun bl=>?_); refine A.c rfl g1 .refl ?_
    ((repeat first|refine A.s rfl ?_|refine A.r rfl rfl ?_|refine A.w rfl rfl ?_|refine A.p rfl ?_|refine A.b rfl fun bx=>?_|refine A.t rfl fun bl=>?_); refine A.c rfl (awake_p m) .refl ?_; (repeat first|refine A.s rfl ?_|refine A.r rfl rfl ?_|refine A.w rfl rfl ?_|refine A.p rfl ?_|refine A.b rfl fun bx=>?_|refine A.t rfl fun bl=>?_); refine A.ret1 (Λ' := []) rfl rfl rfl (List.nil_sublist _) ⟨?_, rfl⟩; exact .refl)
  | false =>
  rw [hg] at g1
  by_cases hm8 : 8 < more.length
  · refine Pure.of (S := tt) (fn := Try.f8) (n := 101) tt_ok Try.func8 rfl rfl rfl rfl fun w0 h0 F hgs => ?_
    (repeat first|refine A.s rfl ?_|refine A.r rfl rfl ?_|refine A.w rfl rfl ?_|refine A.p rfl ?_|refine A.b rfl fun bx=>?_|refine A.t rfl fun bl=>?_); refine A.c rfl g1 .refl ?_
    (repeat first|refine A.s rfl ?_|refine A.r rfl rfl ?_|refine A.w rfl rfl ?_|refine A.p rfl ?_|refine A.b rfl fun bx=>?_|refine A.t rfl fun bl=>?_); refine A.gT rfl (by rw [hlm]; simp; omega) ?_
    ((repeat first|refine A.s rfl ?_|refine A.r rfl rfl ?_|refine A.w rfl rfl ?_|refine A.p rfl ?_|refine A.b rfl fun bx=>?_|refine A.t rfl fun bl=>?_); refine A.c rfl (awake_p m) .refl ?_; (repeat first|refine A.s rfl ?_|refine A.r rfl rfl ?_|refine A.w rfl rfl ?_|refine A.p rfl ?_|refine A.b rfl fun bx=>?_|refine A.t rfl fun bl=>?_); refine A.ret1 (Λ' := []) rfl rfl rfl (List.nil_sublist _) ⟨?_, rfl⟩; exact .refl)
  obtain ⟨ok, h200⟩ := great_ok hg hd he
  by_cases hv : validX e
  case neg =>
    have f1 := FoldBad_p m env e hw hv
    rw [encX_eq e, encX_eq ⟨0, 0, 0, 0, [], []⟩] at f1
    rw [decide_eq_false hv] at hmy
    refine Pure.of (S := tt) (fn := Try.f8) (n := 101) tt_ok Try.func8 rfl rfl rfl rfl fun w0 h0 F hgs => ?_
    (repeat first|refine A.s rfl ?_|refine A.r rfl rfl ?_|refine A.w rfl rfl ?_|refine A.p rfl ?_|refine A.b rfl fun bx=>?_|refine A.t rfl fun bl=>?_); refine A.c rfl g1 .refl ?_
    (repeat first|refine A.s rfl ?_|refine A.r rfl rfl ?_|refine A.w rfl rfl ?_|refine A.p rfl ?_|refine A.b rfl fun bx=>?_|refine A.t rfl fun bl=>?_); refine A.gF rfl (by rw [hlm]; simp; omega) ?_
    (repeat first|refine A.s rfl ?_|refine A.r rfl rfl ?_|refine A.w rfl rfl ?_|refine A.p rfl ?_|refine A.b rfl fun bx=>?_|refine A.t rfl fun bl=>?_); refine A.c rfl f1 .refl ?_
    (repeat first|refine A.s rfl ?_|refine A.r rfl rfl ?_|refine A.w rfl rfl ?_|refine A.p rfl ?_|refine A.b rfl fun bx=>?_|refine A.t rfl fun bl=>?_); refine A.c rfl hmy .refl ?_
    ((repeat first|refine A.s rfl ?_|refine A.r rfl rfl ?_|refine A.w rfl rfl ?_|refine A.p rfl ?_|refine A.b rfl fun bx=>?_|refine A.t rfl fun bl=>?_); refine A.c rfl (awake_p m) .refl ?_; (repeat first|refine A.s rfl ?_|refine A.r rfl rfl ?_|refine A.w rfl rfl ?_|refine A.p rfl ?_|refine A.b rfl fun bx=>?_|refine A.t rfl fun bl=>?_); refine A.ret1 (Λ' := []) rfl rfl rfl (List.nil_sublist _) ⟨?_, rfl⟩; exact .refl)
  have hok := valsP_ok env ok env.length (Nat.le_refl _)
  rw [List.take_length] at hok
  have hwx : wfX (foldE env e) := foldX_wf env _ hok e hw
  have hvx : validX (foldE env e) := foldX_valid env _ hv
  have f1 := Fold_p m env ok e hw hv
  have hmx := emay_p m (foldE env e) hwx
  rw [decide_eq_true hvx] at hmx
  have hsz : szX e ≤ 256 := by have := hv.2.1; omega
  have hnm := (names10_p (htX e) e (Nat.le_refl _) hw (by omega)).any (gs := gsM m)
  have hnl : (namesX e).length ≤ 256 := by have := namesX_len e; omega
  generalize hns : namesX e = ns at hnm hnl
  have hlns : ((ns.map AS).length : Int) = ns.length := by rw [List.length_map]
  have okn := on_ok env more ns ns.length ok h200 (by omega) hm
  have c1 := const_p m _ okn e hw
  have c2 := const_p m _ okn (foldE env e) hwx
  rw [keeps env more ns ns.length e hv] at c2
  rw [encX_eq e] at f1 c1 hnm
  rw [encX_eq (foldE env e)] at f1 c2 hmx
  have hdc := fun s => (declares_p env s hb ok.names).any (gs := gsM m)
  have nm := fun n => (number_p n).any (gs := gsM m)
  have vl := fun s e => (valS_p s e).any (gs := gsM m)
  refine Pure.of (S := tt) (fn := Try.f8) (n := 101) tt_ok Try.func8 rfl rfl rfl rfl fun w0 h0 F hgs => ?_
  (repeat first|refine A.s rfl ?_|refine A.r rfl rfl ?_|refine A.w rfl rfl ?_|refine A.p rfl ?_|refine A.b rfl fun bx=>?_|refine A.t rfl fun bl=>?_); refine A.c rfl g1 .refl ?_
  (repeat first|refine A.s rfl ?_|refine A.r rfl rfl ?_|refine A.w rfl rfl ?_|refine A.p rfl ?_|refine A.b rfl fun bx=>?_|refine A.t rfl fun bl=>?_); refine A.gF rfl (by rw [hlm]; simp; omega) ?_
  (repeat first|refine A.s rfl ?_|refine A.r rfl rfl ?_|refine A.w rfl rfl ?_|refine A.p rfl ?_|refine A.b rfl fun bx=>?_|refine A.t rfl fun bl=>?_); refine A.c rfl f1 .refl ?_
  (repeat first|refine A.s rfl ?_|refine A.r rfl rfl ?_|refine A.w rfl rfl ?_|refine A.p rfl ?_|refine A.b rfl fun bx=>?_|refine A.t rfl fun bl=>?_)
  refine A.lit0 rfl rfl rfl rfl rfl rfl rfl fun bl => ?_
  (repeat first|refine A.s rfl ?_|refine A.r rfl rfl ?_|refine A.w rfl rfl ?_|refine A.p rfl ?_|refine A.b rfl fun bx=>?_|refine A.t rfl fun bl=>?_)
  refine A.append1 rfl rfl rfl rfl rfl rfl rfl rfl rfl rfl rfl rfl rfl rfl (by show (0 + (env.map encS).length) * 16 ≤ _; rw [List.length_map]; omega) fun z0 => ?_
  refine A.valE 44 rfl (x' := .sl 16 ((env ++ newsM env more ns 0).map encS) (some z0)) (by rw [newsM, List.append_nil]; rfl) ?_
  (repeat first|refine A.s rfl ?_|refine A.r rfl rfl ?_|refine A.w rfl rfl ?_|refine A.p rfl ?_|refine A.b rfl fun bx=>?_|refine A.t rfl fun bl=>?_); refine A.c rfl hnm .refl ?_
  (repeat first|refine A.s rfl ?_|refine A.r rfl rfl ?_|refine A.w rfl rfl ?_|refine A.p rfl ?_|refine A.b rfl fun bx=>?_|refine A.t rfl fun bl=>?_)
  refine A.valE 47 rfl (x' := AI (ns.length : Nat)) (ai_eq hlns) ?_
  refine A.keep [1, 2, 3, 7, 9, 46, 47, 48] rfl ?_
  refine A.less (Λ' := [.tail 16 z0, .box _ (cellsX (foldE env e)), .box _ (cellsX e)]) (by repeat (first | exact List.Sublist.refl _ | apply List.Sublist.cons_cons | apply List.Sublist.cons)) ?_
  refine A.loopP (ι := Nat × Value) (fun p => (⟨[(1, specsA env), (2, .sl 1 (more.map AI32) none), (3, .v (.pointer (some ⟨_, 0, none⟩))), (7, .v (.pointer (some ⟨_, 0, none⟩))), (9, .sl 16 ((env ++ newsM env more ns p.1).map encS) (some p.2)), (46, .sl 1 (ns.map AS) none), (47, AI (ns.length : Nat)), (48, AI (p.1 : Nat))], []⟩, [.tail 16 p.2, .box _ (cellsX (foldE env e)), .box _ (cellsX e)]))
    (fun p => p.1 ≤ ns.length) (fun p => ns.length - p.1) (0, z0) (Nat.zero_le _) rfl fun p hi ih => ?_
  obtain ⟨i, z⟩ := p
  have hi : i ≤ ns.length := hi
  (repeat first|refine A.s rfl ?_|refine A.r rfl rfl ?_|refine A.w rfl rfl ?_|refine A.p rfl ?_|refine A.b rfl fun bx=>?_|refine A.t rfl fun bl=>?_)
  refine A.cond rfl (fun hc => ?_) (fun hc => ?_)
  · simp at hc
    refine Exists.elim (at_exN (l := ns) (i := i) (by omega)) fun s hs => ?_
    have hds := hdc s
    have hln := newsM_len env more ns i
    (repeat first|refine A.s rfl ?_|refine A.r rfl rfl ?_|refine A.w rfl rfl ?_|refine A.p rfl ?_|refine A.b rfl fun bx=>?_|refine A.t rfl fun bl=>?_)
    refine A.x rfl (by show (0 : Int) ≤ (i : Nat); omega) (map_at hs) rfl rfl ?_
    (repeat first|refine A.s rfl ?_|refine A.r rfl rfl ?_|refine A.w rfl rfl ?_|refine A.p rfl ?_|refine A.b rfl fun bx=>?_|refine A.t rfl fun bl=>?_)
    refine A.valE 55 rfl (x' := AI (more.length : Nat)) (ai_eq hlm) ?_
    (repeat first|refine A.s rfl ?_|refine A.r rfl rfl ?_|refine A.w rfl rfl ?_|refine A.p rfl ?_|refine A.b rfl fun bx=>?_|refine A.t rfl fun bl=>?_)
    ((fail_if_success (refine A.lit? rfl ?_)); refine A.gS rfl (fun hc => ?_) (fun hc => ?_))
    · simp at hc
      refine Exists.elim (at_exN (l := more) (i := i) (by omega)) fun x hx => ?_
      (repeat first|refine A.s rfl ?_|refine A.r rfl rfl ?_|refine A.w rfl rfl ?_|refine A.p rfl ?_|refine A.b rfl fun bx=>?_|refine A.t rfl fun bl=>?_)
      refine A.c rfl hds .refl ?_
      (repeat first|refine A.s rfl ?_|refine A.r rfl rfl ?_|refine A.w rfl rfl ?_|refine A.p rfl ?_|refine A.b rfl fun bx=>?_|refine A.t rfl fun bl=>?_)
      ((fail_if_success (refine A.lit? rfl ?_)); refine A.gS rfl (fun hc => ?_) (fun hc => ?_))
      · simp at hc
        have hnew : newsM env more ns (i + 1) = newsM env more ns i ++ [valS s (numX x)] := by rw [newsM, hs, hx, newS, hc]; rfl
        (repeat first|refine A.s rfl ?_|refine A.r rfl rfl ?_|refine A.w rfl rfl ?_|refine A.p rfl ?_|refine A.b rfl fun bx=>?_|refine A.t rfl fun bl=>?_)
        refine A.x rfl (by show (0 : Int) ≤ (i : Nat); omega) (map_at hx) rfl rfl ?_
        (repeat first|refine A.s rfl ?_|refine A.r rfl rfl ?_|refine A.w rfl rfl ?_|refine A.p rfl ?_|refine A.b rfl fun bx=>?_|refine A.t rfl fun bl=>?_); refine A.c rfl (nm x) .refl ?_
        refine A.c rfl (vl s (numX x)) .refl ?_
        (repeat first|refine A.s rfl ?_|refine A.r rfl rfl ?_|refine A.w rfl rfl ?_|refine A.p rfl ?_|refine A.b rfl fun bx=>?_|refine A.t rfl fun bl=>?_)
        refine A.entsEq (Λ' := [.tail ty58.size z, .box _ _, .box _ _]) rfl ?_
        refine A.append rfl rfl rfl rfl rfl rfl rfl rfl rfl rfl rfl rfl rfl rfl (by show ((List.map encS (env ++ newsM env more ns i)).length + 1) * 16 ≤ _; rw [List.length_map, List.length_append]; omega) fun z' => ?_
        refine A.valE 72 rfl (x' := .sl 16 ((env ++ newsM env more ns (i + 1)).map encS) (some z')) (by rw [hnew, ← List.append_assoc, List.map_append (l₁ := env ++ newsM env more ns i)]; rfl) ?_
        (repeat first|refine A.s rfl ?_|refine A.r rfl rfl ?_|refine A.w rfl rfl ?_|refine A.p rfl ?_|refine A.b rfl fun bx=>?_|refine A.t rfl fun bl=>?_)
        refine A.valE 48 rfl (x' := AI ((i + 1 : Nat) : Int)) (inc_eq i (by omega)) ?_
        refine A.sub (by repeat (first | exact trivial | refine ⟨⟨_, rfl, .refl⟩, ?_⟩)) (ih (i + 1, z') (by show i + 1 ≤ _; omega) (by show _ - (i + 1) < _ - i; omega))
      · simp at hc
        have hnew : newsM env more ns (i + 1) = newsM env more ns i := by rw [newsM, hs, hx, newS, hc]; simp
        (repeat first|refine A.s rfl ?_|refine A.r rfl rfl ?_|refine A.w rfl rfl ?_|refine A.p rfl ?_|refine A.b rfl fun bx=>?_|refine A.t rfl fun bl=>?_)
        refine A.valE 48 rfl (x' := AI ((i + 1 : Nat) : Int)) (inc_eq i (by omega)) ?_
        refine A.valE 9 rfl (x' := .sl 16 ((env ++ newsM env more ns (i + 1)).map encS) (some z)) (by rw [hnew]) ?_
        refine A.sub (by repeat (first | exact trivial | refine ⟨⟨_, rfl, .refl⟩, ?_⟩)) (ih (i + 1, z) (by show i + 1 ≤ _; omega) (by show _ - (i + 1) < _ - i; omega))
    · simp at hc
      have hnew : newsM env more ns (i + 1) = newsM env more ns i := by
        rw [newsM, List.getElem?_eq_none (l := more) (by omega), hs]
        exact List.append_nil _
      (repeat first|refine A.s rfl ?_|refine A.r rfl rfl ?_|refine A.w rfl rfl ?_|refine A.p rfl ?_|refine A.b rfl fun bx=>?_|refine A.t rfl fun bl=>?_)
      refine A.valE 48 rfl (x' := AI ((i + 1 : Nat) : Int)) (inc_eq i (by omega)) ?_
      refine A.valE 9 rfl (x' := .sl 16 ((env ++ newsM env more ns (i + 1)).map encS) (some z)) (by rw [hnew]) ?_
      refine A.sub (by repeat (first | exact trivial | refine ⟨⟨_, rfl, .refl⟩, ?_⟩)) (ih (i + 1, z) (by show i + 1 ≤ _; omega) (by show _ - (i + 1) < _ - i; omega))
  · simp at hc
    have hi' : i = ns.length := by omega
    subst hi'
    (repeat first|refine A.s rfl ?_|refine A.r rfl rfl ?_|refine A.w rfl rfl ?_|refine A.p rfl ?_|refine A.b rfl fun bx=>?_|refine A.t rfl fun bl=>?_); refine A.c rfl c1 (by repeat (first | exact Sb.refl | exact SbL.refl | refine SbL.cons ?_ ?_ | exact Sb.nil | exact Sb.own1 | refine Sb.own ?_ | refine Sb.ag ?_ | refine Sb.tp ?_)) ?_
    (repeat first|refine A.s rfl ?_|refine A.r rfl rfl ?_|refine A.w rfl rfl ?_|refine A.p rfl ?_|refine A.b rfl fun bx=>?_|refine A.t rfl fun bl=>?_); refine A.c rfl c2 (by repeat (first | exact Sb.refl | exact SbL.refl | refine SbL.cons ?_ ?_ | exact Sb.nil | exact Sb.own1 | refine Sb.own ?_ | refine Sb.ag ?_ | refine Sb.tp ?_)) ?_
    (repeat first|refine A.s rfl ?_|refine A.r rfl rfl ?_|refine A.w rfl rfl ?_|refine A.p rfl ?_|refine A.b rfl fun bx=>?_|refine A.t rfl fun bl=>?_); refine A.c rfl hmx (by repeat (first | exact Sb.refl | exact SbL.refl | refine SbL.cons ?_ ?_ | exact Sb.nil | exact Sb.own1 | refine Sb.own ?_ | refine Sb.ag ?_ | refine Sb.tp ?_)) ?_
    (repeat first|refine A.s rfl ?_|refine A.r rfl rfl ?_|refine A.w rfl rfl ?_|refine A.p rfl ?_|refine A.b rfl fun bx=>?_|refine A.t rfl fun bl=>?_)
    refine A.gT rfl (beq_self_eq_true _) ?_
    (repeat first|refine A.s rfl ?_|refine A.r rfl rfl ?_|refine A.w rfl rfl ?_|refine A.p rfl ?_|refine A.b rfl fun bx=>?_|refine A.t rfl fun bl=>?_)
    refine A.gT rfl (beq_self_eq_true _) ?_
    ((repeat first|refine A.s rfl ?_|refine A.r rfl rfl ?_|refine A.w rfl rfl ?_|refine A.p rfl ?_|refine A.b rfl fun bx=>?_|refine A.t rfl fun bl=>?_); refine A.c rfl (awake_p m) .refl ?_; (repeat first|refine A.s rfl ?_|refine A.r rfl rfl ?_|refine A.w rfl rfl ?_|refine A.p rfl ?_|refine A.b rfl fun bx=>?_|refine A.t rfl fun bl=>?_); refine A.ret1 (Λ' := []) rfl rfl rfl (List.nil_sublist _) ⟨?_, rfl⟩; exact .refl)
end Go.Proofs.Ytlnbmocgnkjlfaa
