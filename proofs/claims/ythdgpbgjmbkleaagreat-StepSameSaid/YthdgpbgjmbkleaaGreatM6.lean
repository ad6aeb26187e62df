/-
  Texts Q18t Q18v Q18w Q17z P18e Q18x P18f P18g P18h P18i P18j Q18y T18a T18b T18c T18d T18e T18g T18o. Conditions: as each theorem says.
-/
import Derived.Test.YthdgpbgjmbkleaaGreatM3
import Derived.Test.YthdgpbgjmbkleaaGreatM5
import Derived.Test.YthdgpbgjmbkleaaGreatM4
set_option linter.unusedVariables false
set_option linter.unusedSimpArgs false
set_option maxRecDepth 100000
set_option maxHeartbeats 4000000
namespace Go.Proofs.YthdgpbgjmbkleaaGreat
open Go Go.Tp
theorem enterM_cons (st : List (List Int)) (g : GD) (r : List GD) : enterM st (g :: r) = match enterG st g with
    | none => none
    | some y => (enterM st r).map (y :: ·) := rfl
abbrev numA (x : Int) : List AV := [AU8 1, AU8 0, AU8 0, AI32 x, AI 0, .sl 6 [] none]
abbrev G1 (g : GD) (x : Int) : AV := .ag [AU8 g.kind, AU8 1, AU8 0, AU8 0, AI32 x, AI 0, .sl 6 [] none, AI g.c, AU8 g.item, AI g.to.v, kesA g.to.ix, AU8 g.time.kind, AU8 g.time.oper, AU8 g.time.to, AI32 g.time.n, AI g.time.v, kesA g.time.l, rsA g.body]
abbrev G2 (g : GD) (x t : Int) : AV := .ag [AU8 g.kind, AU8 1, AU8 0, AU8 0, AI32 x, AI 0, .sl 6 [] none, AI g.c, AU8 g.item, AI g.to.v, kesA g.to.ix, AU8 1, AU8 0, AU8 0, AI32 t, AI 0, .sl 6 [] none, rsA g.body]
theorem G1_eq (g : GD) (x : Int) : cellsG ⟨g.kind, numE x, g.c, g.item, g.to, g.time, g.body⟩ = G1 g x := by
  show AV.ag [_, _, _, _, _, _, AV.sl 6 (encKl []) none, _, _, _, _, _, _, _, _, _, _, _] = _
  rw [encKl]
theorem G2_eq (g : GD) (x t : Int) : cellsG ⟨g.kind, numE x, g.c, g.item, g.to, numE t, g.body⟩ = G2 g x t := by
  show AV.ag [_, _, _, _, _, _, AV.sl 6 (encKl []) none, _, _, _, _, _, _, _, _, _, AV.sl 6 (encKl []) none, _] = _
  rw [encKl]
def rowD (d l : List GD) : List AV := d.map cellsG ++ (l.drop d.length).map cellsG
theorem rowD_len {d l : List GD} (h : d.length ≤ l.length) : (rowD d l).length = l.length := by
  rw [rowD, List.length_append, List.length_map, List.length_map, List.length_drop]; omega
theorem rowD_at {d l : List GD} {g : GD} (h : l[d.length]? = some g) : (rowD d l)[d.length]? = some (cellsG g) := by
  rw [rowD, List.getElem?_append_right (by rw [List.length_map]; exact Nat.le_refl _), List.length_map, Nat.sub_self, drop_at h]; rfl
theorem rowD_set {d l : List GD} {g : GD} (h : l[d.length]? = some g) (y : GD) : (rowD d l).set d.length (cellsG y) = rowD (d ++ [y]) l := by
  unfold rowD
  rw [List.set_append_right _ _ (by rw [List.length_map]; exact Nat.le_refl _), List.length_map, Nat.sub_self, drop_at h, List.map_cons, List.set_cons_zero, List.length_append, List.length_singleton, List.map_append]
  simp
theorem enter_p (s : ST) (p : PR) (hs : wfS s.store) (hg : ∀ g, g ∈ p.gs → wfK g.cond ∧ wfK g.time) (hb : p.gs.length ≤ 16) : Pure Tryz.prog gs0 120 [rnA s, cellsR p] (actsA (enteredM s p)) := by
  have hcl := cloneG_p p.gs (by omega)
  refine Exists.elim (show ∃ R, R = enteredM s p from ⟨_, rfl⟩) fun R hR => ?_
  rw [← hR]
  unfold enteredM at hR
  refine p_ tt_ok Tryz.func120 89 fun w0 h0 F hgs => ?_
  refine y_ ?_
  refine A.b rfl fun b1 => ?_
  refine y_ ?_
  refine A.e rfl hcl .refl (List.Perm.refl _) fun z _ => ?_
  refine A.rowRaw (List.mem_cons_self ..) fun a cp hz hcp => ?_
  rw [encGl_len] at hz hcp
  subst hz
  refine y_ ?_
  refine A.keep [0, 5, 15, 16, 17] rfl ?_
  refine A.entsEq (Λ' := [.row 18 (.slice a p.gs.length cp) (rowD [] p.gs), .box b1 (cellsR p)]) (by rw [rowD, List.map_nil, List.nil_append, List.length_nil, List.drop_zero, encGl_cells]; rfl) ?_
  refine l_ (Λ' := [.row 18 (.slice a p.gs.length cp) (rowD [] p.gs)]) ?_
  refine A.loopP (ι := List GD) (fun d => (⟨[(0, rnA s), (5, .ms (.slice a p.gs.length cp) 18 p.gs.length), (15, .ms (.slice a p.gs.length cp) 18 p.gs.length), (16, AI (p.gs.length : Nat)), (17, AI (d.length : Nat))], []⟩, [.row 18 (.slice a p.gs.length cp) (rowD d p.gs)]))
    (fun d => d.length ≤ p.gs.length ∧ enterM s.store p.gs = (enterM s.store (p.gs.drop d.length)).map (d ++ ·)) (fun d => p.gs.length - d.length) [] ⟨Nat.zero_le _, by rw [List.length_nil, List.drop_zero]; cases enterM s.store p.gs <;> rfl⟩ rfl fun d hd ih => ?_
  obtain ⟨hd1, hd2⟩ := hd
  have hln := rowD_len hd1
  refine y_ ?_
  refine k_ (fun hc=>?_) fun hc=>?_
  · have hci : d.length < p.gs.length := by simpa using hc
    clear hc
    refine Exists.elim (at_exN (l := p.gs) (i := d.length) hci) fun g hgi => ?_
    obtain ⟨hw1, hw2⟩ := hg g (List.mem_of_getElem? hgi)
    have hat := rowD_at hgi
    have hv := Value_p s.store hs g.cond hw1
    rw [encK_eq] at hv
    have hvt := Value_p s.store hs g.time hw2
    rw [encK_eq] at hvt
    rw [drop_at hgi, enterM_cons] at hd2
    refine Exists.elim (show ∃ o, valueM s.store g.time = o from ⟨_, rfl⟩) fun oy hy => ?_
    refine Exists.elim (show ∃ o, valueM s.store g.cond = o from ⟨_, rfl⟩) fun ox hx => ?_
    rw [hy] at hvt
    rw [hx] at hv
    have hne : rowD d p.gs ≠ [] := by intro h; rw [h] at hln; simp at hln; omega
    refine A.rowSome (a := a) (n := p.gs.length) (c := cp) (sz := 18) (l := rowD d p.gs) hne fun bb o ha => ?_
    subst ha
    refine y_ ?_
    refine A.indexRow rfl rfl rfl rfl rfl rfl rfl rfl (by show (0 : Int) ≤ (d.length : Nat); omega) (by rw [hln]; omega) rfl ?_
    refine A.loadRow rfl rfl rfl rfl rfl rfl (y' := cellsG g) rfl hat rfl rfl ?_
    (refine b_ fun bx=>?_; refine y_ ?_)
    cases ox with
    | none =>
      have hRR : R = tauM s.store stopR := by
        have h1 : enterG s.store g = none := by unfold enterG; rw [hx]
        rw [h1] at hd2
        rw [show enterM s.store p.gs = none from hd2] at hR
        exact hR
      refine d_ 12 [0, 1, 2, 3, 4, 5, 6, 7, 8, 9, 10, 11] [(7, optA none)] ?_
      refine cw_ hv ?_
      refine WA.nil (l := []) rfl ?_
      refine g_ ?_
      refine e_ 38 rfl (x' := AB false) (ab_eq (by show (bif (g.kind == 4) then false else false) = false; cases (g.kind == 4) <;> rfl)) ?_
      refine d_ 7 [0, 1, 2, 3, 4, 5, 6] [(6, cellsR stopR)] ?_
      refine WA.c rfl rfl stop_p (.sub .refl) ?_
      refine WA.nil (l := []) rfl ?_
      refine c_ (tau_p s s.store stopR) ?_; refine R_ ?_; rw [hRR]; exact .refl
    | some x =>
      refine d_ 12 [0, 1, 2, 3, 4, 5, 6, 7, 8, 9, 10, 11] [(7, optA (some x))] ?_
      refine cw_ hv ?_
      refine z_ ?_
      ((fail_if_success (refine A.lit? rfl ?_)); refine A.gS rfl (fun hc => ?_) (fun hc => ?_))
      · have h4 : g.kind = 4 := by have h : (g.kind == 4) = true := hc; simpa using h
        clear hc
        refine y_ ?_
        cases oy with
        | none =>
          have hRR : R = tauM s.store stopR := by
            have h1 : enterG s.store g = none := by unfold enterG; rw [hx]; simp only; rw [if_pos h4, hy]
            rw [h1] at hd2
            rw [show enterM s.store p.gs = none from hd2] at hR
            exact hR
          refine d_ 12 [0, 1, 2, 3, 4, 5, 6, 7, 8, 9, 10, 11] [(7, optA none)] ?_
          refine cw_ hvt ?_
          refine z_ ?_
          refine d_ 7 [0, 1, 2, 3, 4, 5, 6] [(6, cellsR stopR)] ?_
          refine WA.c rfl rfl stop_p (.sub .refl) ?_
          refine WA.nil (l := []) rfl ?_
          refine c_ (tau_p s s.store stopR) ?_; refine R_ ?_; rw [hRR]; exact .refl
        | some t =>
          refine d_ 12 [0, 1, 2, 3, 4, 5, 6, 7, 8, 9, 10, 11] [(7, optA (some t))] ?_
          refine cw_ hvt ?_
          refine WA.nil (l := []) rfl ?_
          have h1 : enterG s.store g = some ⟨g.kind, numE x, g.c, g.item, g.to, numE t, g.body⟩ := by unfold enterG; rw [hx]; simp only; rw [if_pos h4, hy]
          refine Exists.elim (show ∃ Y : GD, Y = ⟨g.kind, numE x, g.c, g.item, g.to, numE t, g.body⟩ from ⟨_, rfl⟩) fun Y hY => ?_
          have hd3 : enterM s.store p.gs = (enterM s.store (p.gs.drop (d ++ [Y]).length)).map ((d ++ [Y]) ++ ·) := by
            rw [hd2, h1, ← hY, List.length_append, List.length_singleton]
            show ((enterM s.store (p.gs.drop (d.length + 1))).map (Y :: ·)).map (d ++ ·) = _
            cases enterM s.store (p.gs.drop (d.length + 1)) with
            | none => rfl
            | some l => simp
          refine y_ ?_
          refine A.val 67 rfl (x' := .ag (numA x)) s_ ?_
          refine A.indexRow rfl rfl rfl rfl rfl rfl rfl rfl (by show (0 : Int) ≤ (d.length : Nat); omega) (by rw [hln]; omega) rfl ?_
          refine A.epV 68 rfl ?_
          refine y_ ?_
          refine A.storeRowF d.length 1 ty98 rfl rfl rfl rfl rfl p.gs.length cp o ?_ hat (x' := G1 g x) rfl rfl rfl rfl rfl ?_
          · simp
          refine y_ ?_
          refine e_ 72 rfl (x' := AB true) (ab_eq (by rw [h4]; rfl)) ?_
          refine A.val 76 rfl (x' := .ag (numA t)) s_ ?_
          refine A.indexRow rfl rfl rfl rfl rfl rfl rfl rfl (by show (0 : Int) ≤ (d.length : Nat); omega) (by rw [List.length_set, hln]; omega) rfl ?_
          refine A.epV 77 rfl ?_
          refine y_ ?_
          refine A.storeRowF d.length 11 ty98 rfl rfl rfl rfl rfl p.gs.length cp o ?_ (x := G1 g x) (by rw [List.getElem?_set_self (by rw [hln]; exact hci)]) (x' := G2 g x t) rfl rfl rfl rfl (xs' := rowD (d ++ [Y]) p.gs) (by rw [List.set_set, ← G2_eq, ← hY]; exact rowD_set hgi Y) ?_
          · simp
          refine y_ ?_
          refine A.valE 17 rfl (x' := AI ((d ++ [Y]).length : Nat)) (by rw [List.length_append, List.length_singleton]; exact inc_eq d.length (by omega)) ?_
          refine l_ (Λ' := [.row 18 (.slice (some ⟨bb, o, none⟩) p.gs.length cp) (rowD (d ++ [Y]) p.gs)]) ?_
          refine u_ (ih (d ++ [Y]) ⟨by rw [List.length_append, List.length_singleton]; omega, hd3⟩ (by rw [List.length_append, List.length_singleton]; omega))
      · have h4 : g.kind ≠ 4 := by have h : (g.kind == 4) = false := hc; simpa using h
        clear hc
        have h1 : enterG s.store g = some ⟨g.kind, numE x, g.c, g.item, g.to, g.time, g.body⟩ := by unfold enterG; rw [hx]; simp only; rw [if_neg h4]
        refine Exists.elim (show ∃ Y : GD, Y = ⟨g.kind, numE x, g.c, g.item, g.to, g.time, g.body⟩ from ⟨_, rfl⟩) fun Y hY => ?_
        have hd3 : enterM s.store p.gs = (enterM s.store (p.gs.drop (d ++ [Y]).length)).map ((d ++ [Y]) ++ ·) := by
          rw [hd2, h1, ← hY, List.length_append, List.length_singleton]
          show ((enterM s.store (p.gs.drop (d.length + 1))).map (Y :: ·)).map (d ++ ·) = _
          cases enterM s.store (p.gs.drop (d.length + 1)) with
          | none => rfl
          | some l => simp
        refine y_ ?_
        refine A.val 67 rfl (x' := .ag (numA x)) s_ ?_
        refine A.indexRow rfl rfl rfl rfl rfl rfl rfl rfl (by show (0 : Int) ≤ (d.length : Nat); omega) (by rw [hln]; omega) rfl ?_
        refine A.epV 68 rfl ?_
        refine y_ ?_
        refine A.storeRowF d.length 1 ty98 rfl rfl rfl rfl rfl p.gs.length cp o ?_ hat (x' := G1 g x) rfl rfl rfl rfl (xs' := rowD (d ++ [Y]) p.gs) (by rw [← G1_eq, ← hY]; exact rowD_set hgi Y) ?_
        · simp
        refine y_ ?_
        refine e_ 72 rfl (x' := AB false) (ab_eq (by rw [beq_eq_false_iff_ne]; exact h4)) ?_
        refine A.valE 17 rfl (x' := AI ((d ++ [Y]).length : Nat)) (by rw [List.length_append, List.length_singleton]; exact inc_eq d.length (by omega)) ?_
        refine l_ (Λ' := [.row 18 (.slice (some ⟨bb, o, none⟩) p.gs.length cp) (rowD (d ++ [Y]) p.gs)]) ?_
        refine u_ (ih (d ++ [Y]) ⟨by rw [List.length_append, List.length_singleton]; omega, hd3⟩ (by rw [List.length_append, List.length_singleton]; omega))
  have hci : ¬ d.length < p.gs.length := by simpa using hc
  clear hc ih
  have hdl : d.length = p.gs.length := by omega
  rw [List.drop_eq_nil_of_le (by omega)] at hd2
  have hd3 : enterM s.store p.gs = some d := by rw [hd2]; show some (d ++ []) = _; rw [List.append_nil]
  rw [hd3] at hR
  have hRR : R = tauM s.store ⟨16, 0, 0, 0, [], [], d, []⟩ := hR
  have hta := tau_p s s.store ⟨16, 0, 0, 0, [], [], d, []⟩
  have e9 : cellsR ⟨16, 0, 0, 0, [], [], d, []⟩ = .ag [AU8 16, AI 0, AI 0, AU8 0, .sl 2 [] none, .sl 6 [] none, .sl 18 (rowD d p.gs) none, .sl 8 [] none] := by
    show AV.ag [_, _, _, _, AV.sl 2 _ none, AV.sl 6 (encKl []) none, AV.sl 18 (encGl d) none, AV.sl 8 (encRl []) none] = _
    rw [encKl, encRl, encGl_cells, rowD, List.drop_eq_nil_of_le (by omega)]; simp
  rw [e9] at hta
  refine A.freezeRow 5 rfl ?_
  refine y_ ?_
  refine c_ hta ?_; refine R_ ?_; rw [hRR]; exact .refl
section
variable {V : List KV} {C : List Int}
theorem shape_lens {p : PR} {ch v : Bool} {t1 t2 e1 e2 g1 g2 l1 l2 : Int} (h : shapeR p ch v t1 t2 e1 e2 g1 g2 l1 l2 = true) : (t1 ≤ p.to.length ∧ (p.to.length : Int) ≤ t2) ∧ (e1 ≤ p.e.length ∧ (p.e.length : Int) ≤ e2) ∧ (g1 ≤ p.gs.length ∧ (p.gs.length : Int) ≤ g2) ∧ (l1 ≤ p.l.length ∧ (p.l.length : Int) ≤ l2) := by
  simp only [shapeR, inB, Bool.and_eq_true, decide_eq_true_eq] at h
  omega
theorem Loc.k3 {p : PR} (h : Loc V C p) (hk : p.kind = 3) : 0 ≤ p.v ∧ p.v < V.length := by
  have h1 := h.kind
  obtain ⟨k, c, v, i, to, e, gs, l⟩ := p
  have hk : k = 3 := hk
  subst hk
  have h2 : (shapeR ⟨3, c, v, i, to, e, gs, l⟩ false true 0 0 0 0 0 0 0 0 && decide (0 ≤ v) && decide (v < V.length)) = true := h1
  simp only [Bool.and_eq_true, decide_eq_true_eq] at h2
  exact ⟨h2.1.2, h2.2⟩
theorem Loc.k4 {p : PR} (h : Loc V C p) (hk : p.kind = 4) : p.to.length = p.e.length ∧ (p.to.zip p.e).all (fun te => assignB V te.1 te.2) = true := by
  have h1 := h.kind
  obtain ⟨k, c, v, i, to, e, gs, l⟩ := p
  have hk : k = 4 := hk
  subst hk
  have h2 : (shapeR ⟨4, c, v, i, to, e, gs, l⟩ false false 1 8 1 8 0 0 0 0 && (to.length == e.length) && (to.zip e).all fun te => assignB V te.1 te.2) = true := h1
  simp only [Bool.and_eq_true, beq_iff_eq] at h2
  exact ⟨h2.1.2, h2.2⟩
theorem one_ofR {α : Type} {l : List α} (h : l.length = 1) : ∃ x, l = [x] := by
  match l, h with
  | [x], _ => exact ⟨x, rfl⟩
theorem Loc.k5 {p : PR} (h : Loc V C p) (hk : p.kind = 5) : ∃ t, p.to = [t] ∧ inputB V C.length p.c p.item t = true := by
  have h1 := h.kind
  obtain ⟨k, c, v, i, to, e, gs, l⟩ := p
  have hk : k = 5 := hk
  subst hk
  have h2 : (shapeR ⟨5, c, v, i, to, e, gs, l⟩ true false 1 1 0 0 0 0 0 0 && to1 (inputB V C.length c i) to) = true := h1
  rw [Bool.and_eq_true] at h2
  have h3 := (shape_lens h2.1).1
  obtain ⟨t, ht⟩ := one_ofR (l := to) (by have : (to.length : Int) = to.length := rfl; have h4 : (1 : Int) ≤ to.length := h3.1; have h5 : (to.length : Int) ≤ 1 := h3.2; omega)
  subst ht
  exact ⟨t, rfl, h2.2⟩
theorem Loc.k6 {p : PR} (h : Loc V C p) (hk : p.kind = 6) : ∃ e, p.e = [e] ∧ chanB C.length p.c p.item 0 = true ∧ fitV V e p.item = true := by
  have h1 := h.kind
  obtain ⟨k, c, v, i, to, e, gs, l⟩ := p
  have hk : k = 6 := hk
  subst hk
  have h2 : (shapeR ⟨6, c, v, i, to, e, gs, l⟩ true false 0 0 1 1 0 0 0 0 && chanB C.length c i 0 && fit1 V e i) = true := h1
  rw [Bool.and_eq_true, Bool.and_eq_true] at h2
  have h3 := (shape_lens h2.1.1).2.1
  obtain ⟨t, ht⟩ := one_ofR (l := e) (by have h4 : (1 : Int) ≤ e.length := h3.1; have h5 : (e.length : Int) ≤ 1 := h3.2; omega)
  subst ht
  exact ⟨t, rfl, h2.1.2, h2.2⟩
theorem Loc.k7 {p : PR} (h : Loc V C p) (hk : p.kind = 7) : ∃ t, p.to = [t] ∧ placeB V t 1 = true := by
  have h1 := h.kind
  obtain ⟨k, c, v, i, to, e, gs, l⟩ := p
  have hk : k = 7 := hk
  subst hk
  have h2 : (shapeR ⟨7, c, v, i, to, e, gs, l⟩ false false 1 1 0 0 0 0 0 0 && to1 (fun t => placeB V t 1) to) = true := h1
  rw [Bool.and_eq_true] at h2
  have h3 := (shape_lens h2.1).1
  obtain ⟨t, ht⟩ := one_ofR (l := to) (by have h4 : (1 : Int) ≤ to.length := h3.1; have h5 : (to.length : Int) ≤ 1 := h3.2; omega)
  subst ht
  exact ⟨t, rfl, h2.2⟩
theorem Loc.k8 {p : PR} (h : Loc V C p) (hk : p.kind = 8) : ∃ e, p.e = [e] ∧ fitV V e 1 = true := by
  have h1 := h.kind
  obtain ⟨k, c, v, i, to, e, gs, l⟩ := p
  have hk : k = 8 := hk
  subst hk
  have h2 : (shapeR ⟨8, c, v, i, to, e, gs, l⟩ false false 0 0 1 1 0 0 0 0 && fit1 V e 1) = true := h1
  rw [Bool.and_eq_true] at h2
  have h3 := (shape_lens h2.1).2.1
  obtain ⟨t, ht⟩ := one_ofR (l := e) (by have h4 : (1 : Int) ≤ e.length := h3.1; have h5 : (e.length : Int) ≤ 1 := h3.2; omega)
  subst ht
  exact ⟨t, rfl, h2.2⟩
theorem Loc.k13 {p : PR} (h : Loc V C p) (hk : p.kind = 13) : ∃ e b, p.e = [e] ∧ p.l = [b] ∧ fitV V e 3 = true := by
  have h1 := h.kind
  obtain ⟨k, c, v, i, to, e, gs, l⟩ := p
  have hk : k = 13 := hk
  subst hk
  have h2 : (shapeR ⟨13, c, v, i, to, e, gs, l⟩ false false 0 0 1 1 0 0 1 1 && fit1 V e 3) = true := h1
  rw [Bool.and_eq_true] at h2
  have h3 := shape_lens h2.1
  obtain ⟨t, ht⟩ := one_ofR (l := e) (by have h4 : (1 : Int) ≤ e.length := h3.2.1.1; have h5 : (e.length : Int) ≤ 1 := h3.2.1.2; omega)
  obtain ⟨b, hb⟩ := one_ofR (l := l) (by have h4 : (1 : Int) ≤ l.length := h3.2.2.2.1; have h5 : (l.length : Int) ≤ 1 := h3.2.2.2.2; omega)
  subst ht; subst hb
  exact ⟨t, b, rfl, rfl, h2.2⟩
end
theorem GoodK.small {k : KN} {s : ST} (h : GoodK k s) : Small s.store := mayB_short h.store
theorem clearM_succ (st : List (List Int)) (v : Int) (n : Nat) : clearM st v (n + 1) = putM (clearM st v n) v (n : Nat) 0 := by
  unfold clearM
  rw [List.range_succ, List.foldl_append]; rfl
theorem clear_small {st : List (List Int)} (h : Small st) (v : Int) : ∀ n, Small (clearM st v n)
  | 0 => h
  | n + 1 => by rw [clearM_succ]; exact (clear_small h v n).put _ _ _
theorem does_3 (s : ST) (p : PR) (hsm : Small s.store) (r : List Int) (hr : s.store[p.v.toNat]? = some r) (hv0 : 0 ≤ p.v) (hk : p.kind = 3) : Pure Tryz.prog gs0 91 [rnA s, cellsR p] (actsA (tauM (clearM s.store p.v r.length) skipR)) := by
  have hrl : ((r.map AI32).length : Int) = r.length := by rw [List.length_map]
  have hr64 := hsm.2 r (List.mem_of_getElem? hr)
  refine p_ tt_ok Tryz.func91 120 fun w0 h0 F hgs => ?_
  refine y_ ?_
  refine A.b rfl fun b1 => ?_
  refine y_ ?_
  refine e_ 12 rfl (x' := AB true) (ab_eq (by rw [hk]; rfl)) ?_
  refine A.x rfl hv0 (map_at hr) rfl rfl ?_
  refine y_ ?_
  refine A.valE 24 rfl (x' := AI (r.length : Nat)) (ai_eq hrl) ?_
  refine A.keep [0, 3, 5, 24, 25] rfl ?_
  refine A.loopP (ι := Nat) (fun i => (⟨[(0, rnA s), (3, ptrA b1), (5, rowsA (clearM s.store p.v i)), (24, AI (r.length : Nat)), (25, AI (i : Nat))], []⟩, [.box b1 (cellsR p)])) (fun i => i ≤ r.length) (fun i => r.length - i) 0 (Nat.zero_le _) rfl fun i hi ih => ?_
  refine y_ ?_
  refine k_ (fun hc=>?_) fun hc=>?_
  · have hci : i < r.length := by simpa using hc
    clear hc
    have hpp := (clear_small hsm p.v i).put_p p.v (i : Nat) 0
    rw [← clearM_succ] at hpp
    refine y_ ?_
    refine c_ hpp ?_
    refine A.valE 25 rfl (x' := AI ((i + 1 : Nat) : Int)) (inc_eq i (by omega)) ?_
    refine l_ (Λ' := [.box b1 (cellsR p)]) ?_
    refine u_ (ih (i + 1) (by omega) (by omega))
  have hci : ¬ i < r.length := by simpa using hc
  clear hc ih
  have hil : i = r.length := by omega
  refine y_ ?_
  refine n_ skip_p ?_
  refine c_ (tau_p s (clearM s.store p.v i) skipR) ?_; refine R_ ?_; rw [hil]; exact .refl
theorem does_7 (s : ST) (p : PR) (hs : wfS s.store) (hsm : Small s.store) (t : PL) (r : List PL) (ht : p.to = t :: r) (hw : wfPl t) (hn : t.ix.length ≤ 281474976710656) (hk : p.kind = 7) : Pure Tryz.prog gs0 91 [rnA s, cellsR p] (actsA (timeM s p)) := by
  have hp := Place_p s.store hs t.v t.ix hw hn
  have hat : (p.to.map encPl)[(0 : Int).toNat]? = some (encPl t) := by rw [ht]; rfl
  refine Exists.elim (show ∃ R, R = timeM s p from ⟨_, rfl⟩) fun R hR => ?_
  rw [← hR]
  unfold timeM at hR
  rw [ht] at hR
  simp only at hR
  cases hx : placeM s.store t.v t.ix with
  | none =>
    rw [hx] at hp hR
    have hRR : R = tauM s.store stopR := hR
    refine p_ tt_ok Tryz.func91 120 fun w0 h0 F hgs => ?_
    (refine b_ fun bx=>?_; refine y_ ?_)
    refine e_ 12 rfl (x' := AB false) (ab_eq (by rw [hk]; rfl)) ?_
    refine e_ 38 rfl (x' := AB false) (ab_eq (by rw [hk]; rfl)) ?_
    refine e_ 43 rfl (x' := AB true) (ab_eq (by rw [hk]; rfl)) ?_
    refine d_ 16 [0, 1, 2, 3, 4, 5, 6, 7, 8, 9, 10, 11, 12, 13, 14, 15] [(9, optP none)] ?_
    refine iw_ rfl hat rfl ?_
    refine cw_ hp ?_
    refine z_ ?_
    refine d_ 7 [0, 1, 2, 3, 4, 5, 6] [(6, cellsR stopR)] ?_
    refine WA.c rfl rfl stop_p (.sub .refl) ?_
    refine WA.nil (l := []) rfl ?_
    refine c_ (tau_p s s.store stopR) ?_; refine R_ ?_; rw [hRR]; exact .refl
  | some vi =>
    rw [hx] at hp hR
    obtain ⟨v, i⟩ := vi
    have hRR : R = tauM (putM s.store v i s.time) skipR := hR
    have hpp := hsm.put_p v i s.time
    refine p_ tt_ok Tryz.func91 120 fun w0 h0 F hgs => ?_
    (refine b_ fun bx=>?_; refine y_ ?_)
    refine e_ 12 rfl (x' := AB false) (ab_eq (by rw [hk]; rfl)) ?_
    refine e_ 38 rfl (x' := AB false) (ab_eq (by rw [hk]; rfl)) ?_
    refine e_ 43 rfl (x' := AB true) (ab_eq (by rw [hk]; rfl)) ?_
    refine d_ 16 [0, 1, 2, 3, 4, 5, 6, 7, 8, 9, 10, 11, 12, 13, 14, 15] [(9, optP (some (v, i)))] ?_
    refine iw_ rfl hat rfl ?_
    refine cw_ hp ?_
    refine z_ ?_
    refine d_ 15 [0, 1, 2, 3, 4, 5, 6, 7, 8, 9, 10, 11, 12, 13, 14] [(13, rowsA (putM s.store v i s.time)), (14, cellsR skipR)] ?_
    refine cw_ hpp ?_
    refine WA.c rfl rfl skip_p (.sub .refl) ?_
    refine WA.nil (l := []) rfl ?_
    refine c_ (tau_p s (putM s.store v i s.time) skipR) ?_; refine R_ ?_; rw [hRR]; exact .refl
theorem fits_wf {k : KN} {c : PR} (h : Loc k.vars k.chans c) : (∀ x, x ∈ c.e → wfK x) ∧ (∀ t, t ∈ c.to → wfPl t ∧ t.ix.length ≤ 281474976710656) ∧ (∀ g, g ∈ c.gs → (wfK g.cond ∧ wfK g.time) ∧ (wfPl g.to ∧ g.to.ix.length ≤ 281474976710656) ∧ ∃ y, g.body = [y]) :=
  ⟨fun x hx => (h.e x hx).1, fun t ht => ⟨(h.to t ht).1, smP_l (h.to t ht).2⟩, fun g hg => ⟨⟨(h.gs g hg).1.1, (h.gs g hg).2.1.1⟩, ⟨(h.gs g hg).2.2.1, smP_l (h.gs g hg).2.2.2⟩, h.body g hg⟩⟩
theorem does_p (k : KN) (s : ST) (hg : GoodK k s) (p : PR) (h : Loc k.vars k.chans p) : Pure Tryz.prog gs0 91 [rnA s, cellsR p] (actsA (doesM s p)) := by
  have hs := hg.ws
  have hsm := hg.small
  obtain ⟨f1, f2, f3⟩ := fits_wf h
  obtain ⟨l1, l2, l3, l4⟩ := h.lens
  by_cases k3 : p.kind = 3
  · obtain ⟨h0, h1⟩ := h.k3 k3
    have hlen : s.store.length = k.vars.length := by
      have := hg.store
      unfold mayB at this
      simp only [Bool.and_eq_true, decide_eq_true_eq] at this
      exact this.1.1
    obtain ⟨r, hr⟩ := at_exN (l := s.store) (i := p.v.toNat) (by omega)
    have hd : doesM s p = tauM (clearM s.store p.v r.length) skipR := by unfold doesM rowOf; rw [if_pos k3, hr]
    rw [hd]
    exact does_3 s p hsm r hr h0 k3
  by_cases k7 : p.kind = 7
  · obtain ⟨t, ht, _⟩ := h.k7 k7
    have ht' := f2 t (by rw [ht]; exact .head _)
    have hd : doesM s p = timeM s p := by unfold doesM; rw [if_neg k3, if_neg (by omega), if_pos k7]
    rw [hd]
    exact does_7 s p hs hsm t [] ht ht'.1 ht'.2 k7
  by_cases k4 : p.kind = 4
  · have hd : doesM s p = assignM s p := by unfold doesM; rw [if_neg k3, if_pos k4]
    rw [hd]
    have ha := assign_p s p hs hsm f1 f2 (h.k4 k4).1 l2
    obtain ⟨kk, c, v, i, to, e, gs, l⟩ := p
    have k4 : kk = 4 := k4
    subst k4
    refine p_ tt_ok Tryz.func91 120 fun w0 h0 F hgs => ?_
    (refine b_ fun bx=>?_; refine y_ ?_)
    exact cr_ ha
  by_cases k12 : p.kind = 12
  · have hd : doesM s p = chooseM s p.gs := by unfold doesM; rw [if_neg k3, if_neg k4, if_neg k7, if_pos k12]
    rw [hd]
    have ha := choose_p s p hs (fun g hg => ⟨(f3 g hg).1.1, (f3 g hg).2.2⟩) (by omega)
    obtain ⟨kk, c, v, i, to, e, gs, l⟩ := p
    have k12 : kk = 12 := k12
    subst k12
    refine p_ tt_ok Tryz.func91 120 fun w0 h0 F hgs => ?_
    (refine b_ fun bx=>?_; refine y_ ?_)
    exact cr_ ha
  by_cases k14 : p.kind = 14
  · have hd : doesM s p = enteredM s p := by unfold doesM; rw [if_neg k3, if_neg k4, if_neg k7, if_neg k12, if_pos (.inl k14)]
    rw [hd]
    have ha := enter_p s p hs (fun g hg => (f3 g hg).1) l3
    obtain ⟨kk, c, v, i, to, e, gs, l⟩ := p
    have k14 : kk = 14 := k14
    subst k14
    refine p_ tt_ok Tryz.func91 120 fun w0 h0 F hgs => ?_
    (refine b_ fun bx=>?_; refine y_ ?_)
    exact cr_ ha
  by_cases k15 : p.kind = 15
  · have hd : doesM s p = enteredM s p := by unfold doesM; rw [if_neg k3, if_neg k4, if_neg k7, if_neg k12, if_pos (.inr k15)]
    rw [hd]
    have ha := enter_p s p hs (fun g hg => (f3 g hg).1) l3
    obtain ⟨kk, c, v, i, to, e, gs, l⟩ := p
    have k15 : kk = 15 := k15
    subst k15
    refine p_ tt_ok Tryz.func91 120 fun w0 h0 F hgs => ?_
    (refine b_ fun bx=>?_; refine y_ ?_)
    exact cr_ ha
  by_cases k16 : p.kind = 16
  · have hd : doesM s p = p.gs.flatMap (waitG s) := by unfold doesM; rw [if_neg k3, if_neg k4, if_neg k7, if_neg k12, if_neg (by omega), if_pos k16]
    rw [hd]
    have ha := waiting_p s p hs (fun g hg => (f3 g hg).2) l3
    obtain ⟨kk, c, v, i, to, e, gs, l⟩ := p
    have k16 : kk = 16 := k16
    subst k16
    refine p_ tt_ok Tryz.func91 120 fun w0 h0 F hgs => ?_
    (refine b_ fun bx=>?_; refine y_ ?_)
    exact cr_ ha
  by_cases k5 : p.kind = 5
  · obtain ⟨t, ht, _⟩ := h.k5 k5
    have ht' := f2 t (by rw [ht]; exact .head _)
    have hd : doesM s p = inputM s p.c p.item t skipR := by unfold doesM inM; rw [if_neg k3, if_neg k4, if_neg k7, if_neg k12, if_neg (by omega), if_neg k16, if_pos k5, ht]
    rw [hd]
    have ha := ninput_p s p.c p.item t skipR hs ht'.1 ht'.2
    have hat : (p.to.map encPl)[(0 : Int).toNat]? = some (encPl t) := by rw [ht]; rfl
    obtain ⟨kk, c, v, i, to, e, gs, l⟩ := p
    have k5 : kk = 5 := k5
    subst k5
    refine p_ tt_ok Tryz.func91 120 fun w0 h0 F hgs => ?_
    (refine b_ fun bx=>?_; refine y_ ?_)
    refine d_ 10 [0, 1, 2, 3, 4, 5, 6, 7, 8, 9] [(9, cellsR skipR)] ?_
    refine iw_ rfl hat rfl ?_
    refine WA.c rfl rfl skip_p (.sub .refl) ?_
    refine WA.nil (l := []) rfl ?_
    exact cr_ ha
  by_cases k8 : p.kind = 8
  · obtain ⟨e0, he, _⟩ := h.k8 k8
    have hd : doesM s p = valuedM s p := by unfold doesM; rw [if_neg k3, if_neg k4, if_neg k7, if_neg k12, if_neg (by omega), if_neg k16, if_neg k5, if_pos (.inl k8)]
    rw [hd]
    have ha := valued_p s p e0 [] he hs (f1 e0 (by rw [he]; exact .head _)) skipR (fun h => by omega)
    obtain ⟨kk, c, v, i, to, e, gs, l⟩ := p
    have k8 : kk = 8 := k8
    subst k8
    refine p_ tt_ok Tryz.func91 120 fun w0 h0 F hgs => ?_
    (refine b_ fun bx=>?_; refine y_ ?_)
    exact cr_ ha
  by_cases k13 : p.kind = 13
  · obtain ⟨e0, b, he, hb, _⟩ := h.k13 k13
    have hd : doesM s p = valuedM s p := by unfold doesM; rw [if_neg k3, if_neg k4, if_neg k7, if_neg k12, if_neg (by omega), if_neg k16, if_neg k5, if_pos (.inr (.inl k13))]
    rw [hd]
    have ha := valued_p s p e0 [] he hs (f1 e0 (by rw [he]; exact .head _)) b (fun _ => ⟨[], hb⟩)
    obtain ⟨kk, c, v, i, to, e, gs, l⟩ := p
    have k13 : kk = 13 := k13
    subst k13
    refine p_ tt_ok Tryz.func91 120 fun w0 h0 F hgs => ?_
    (refine b_ fun bx=>?_; refine y_ ?_)
    exact cr_ ha
  by_cases k6 : p.kind = 6
  · obtain ⟨e0, he, _⟩ := h.k6 k6
    have hd : doesM s p = valuedM s p := by unfold doesM; rw [if_neg k3, if_neg k4, if_neg k7, if_neg k12, if_neg (by omega), if_neg k16, if_neg k5, if_pos (.inr (.inr k6))]
    rw [hd]
    have ha := valued_p s p e0 [] he hs (f1 e0 (by rw [he]; exact .head _)) skipR (fun h => by omega)
    obtain ⟨kk, c, v, i, to, e, gs, l⟩ := p
    have k6 : kk = 6 := k6
    subst k6
    refine p_ tt_ok Tryz.func91 120 fun w0 h0 F hgs => ?_
    (refine b_ fun bx=>?_; refine y_ ?_)
    exact cr_ ha
  have hd : doesM s p = [] := by unfold doesM; rw [if_neg k3, if_neg k4, if_neg k7, if_neg k12, if_neg (by omega), if_neg k16, if_neg k5, if_neg (by omega)]
  rw [hd]
  have n : ∀ {j : Int}, p.kind ≠ j → (p.kind == j) = false := fun h => beq_eq_false_iff_ne.2 h
  refine p_ tt_ok Tryz.func91 120 fun w0 h0 F hgs => ?_
  (refine b_ fun bx=>?_; refine y_ ?_)
  refine e_ 12 rfl (x' := AB false) (ab_eq (n k3)) ?_
  refine e_ 38 rfl (x' := AB false) (ab_eq (n k4)) ?_
  refine e_ 43 rfl (x' := AB false) (ab_eq (n k7)) ?_
  refine e_ 84 rfl (x' := AB false) (ab_eq (n k12)) ?_
  refine e_ 89 rfl (x' := AB false) (ab_eq (n k14)) ?_
  refine e_ 89 rfl (x' := AB false) (ab_eq (n k15)) ?_
  refine e_ 95 rfl (x' := AB false) (ab_eq (n k16)) ?_
  refine e_ 100 rfl (x' := AB false) (ab_eq (n k5)) ?_
  refine e_ 113 rfl (x' := AB false) (ab_eq (n k8)) ?_
  refine e_ 113 rfl (x' := AB false) (ab_eq (n k13)) ?_
  refine e_ 113 rfl (x' := AB false) (ab_eq (n k6)) ?_; refine R_ ?_; exact .nil
section
variable {K : AC} {k : List It} {E : AEnv} {Λ : List AEnt}
theorem A.rangeIterN {x : Operand} {ps : Array Tmp} {assign body : Code} {g : FuncId} {cap cap' : List AV} {xss : List (List AV)} (hx : E.ev K.gs [] x = some (.fn g [] cap')) (hs : SbL cap' cap) (it : Iter K.P K.S K.ok K.gs g cap xss) (hrd : K.rd = none)
    (hb : allBelow K.n ps.toList = true) (hlen : ∀ xs, xs ∈ xss → Nat.beq (lenN xs) ps.toList.length = true) (Inv : Nat → List AEnt → Prop) (Stop : LoopState → Option Code → List AEnt → Prop) (h0 : Inv 0 Λ)
    (rounds : ∀ (h0' : GH) (lp : Nat) (LR : Loop), K.h0.le h0' → ∀ i xs Λi (h1 : GH) (hg1 : GsOk h1 K.gs) (F : List Ent), xss[i]? = some xs → Inv i Λi → h0'.le h1 →
      A ⟨K.P, K.S, K.w0, K.f, K.fn, K.n, K.ok, K.hfn, h1, F, K.gs, hg1, fun y Λ' =>
          (y = .v (.bool true) ∧ ∃ Λ'', Λ' = .loop lp LR .ready none :: Λ'' ∧ Inv (i + 1) Λ'') ∨ (y = .v (.bool false) ∧ ∃ st pd Λ'', st ≠ .busy ∧ Λ' = .loop lp LR st pd :: Λ'' ∧ Stop st pd Λ''), [], some lp⟩
        [.code assign, .begin, .code body] ⟨setsA ps.toList xs E.us, []⟩ (.loop lp LR .ready none :: Λi))
    (fin : ∀ (h1 : GH) (hg1 : GsOk h1 K.gs) (r : Nat) Λ', K.h0.le h1 → Inv xss.length Λ' → A ⟨K.P, K.S, K.w0, K.f, K.fn, K.n, K.ok, K.hfn, h1, K.F, K.gs, hg1, K.Q, r :: K.D, none⟩ k E Λ')
    (stop : ∀ (h1 : GH) (hg1 : GsOk h1 K.gs) (r : Nat) st pd Λ', K.h0.le h1 → st ≠ .busy → Stop st pd Λ' → A ⟨K.P, K.S, K.w0, K.f, K.fn, K.n, K.ok, K.hfn, h1, K.F, K.gs, hg1, K.Q, r :: K.D, none⟩ (jumpIts pd ++ k) E Λ') :
    A K (.code (.rangeFunc x ps assign body) :: k) E Λ :=
  A.rangeIter hx hs it hrd hb hlen Inv Stop h0 (fun h0' lp tm hl i xs Λi h1 hg1 F hxs hi hl1 => rounds h0' lp _ hl i xs Λi h1 hg1 F hxs hi hl1) fin stop
end
abbrev actW (a : ACT) (f path : AV) : AV := .ag [AU8 a.kind, rowsA a.store, AI a.c, AI a.v, AI a.i, AU8 a.item, AI32 a.value, AU8 a.next.kind, AI a.next.c, AI a.next.v, AU8 a.next.item, plsA a.next.to, kesA a.next.e, gsA a.next.gs, rsA a.next.l, f, path]
abbrev rawF (path : List Nat) (b : Nat) : AV := .fn 92 [] [.pe 1 (pathL path), ptrA b]
abbrev putF (a : ACT) (path : List Nat) (b : Nat) : AV := .fn 92 [] [.pe 1 (pathL path), .pe 17 (actW a (rawF path b) (pathL path))]
abbrev actF (a : ACT × List Nat) (b : Nat) : AV := actW a.1 (putF a.1 a.2 b) (pathL a.2)
theorem put_closure {V : List KV} {C : List Int} {c p : PR} {h : Bool} (a : ACT) (path : List Nat) (b : Nat) (hok : okF (Loc V C) true h p) (ha : atR p path = some c) : Pure Tryz.prog gs0 92 [cellsR p, .pe 1 (pathL path), .pe 17 (actW a (rawF path b) (pathL path))] (cellsR (repR a.next p path)) := by
  have hr := replaced_p (q := a.next) hok ha
  refine p_ tt_ok Tryz.func92 10 fun w0 h0 F hgs => ?_
  (refine b_ fun bx=>?_; refine b_ fun bx=>?_; refine y_ ?_)
  refine c_ hr ?_; refine A.retC (Λ' := []) rfl rfl rfl rfl rfl (List.nil_sublist _) ⟨?_, rfl⟩; exact .refl
theorem pathA_sb (path : List Nat) : Sb (pathA path) (pathL path) := by
  cases path with
  | nil => exact .nil
  | cons i r => exact .refl
theorem tau_len (st : List (List Int)) (q : PR) : (tauM st q).length = 1 := rfl
theorem input_len (s : ST) (c item : Int) (to : PL) (q : PR) : (inputM s c item to q).length = 1 := by
  unfold inputM; split <;> rfl
theorem choose_len (s : ST) : ∀ l : List GD, (chooseM s l).length = 1
  | [] => rfl
  | g :: r => by
    rw [chooseM]
    split
    · rfl
    · split
      · rfl
      · exact choose_len s r
theorem does_len {V : List KV} {C : List Int} (s : ST) {p : PR} (h : Loc V C p) : (doesM s p).length ≤ 16 := by
  obtain ⟨l1, l2, l3, l4⟩ := h.lens
  unfold doesM
  split
  · rw [tau_len]; omega
  split
  · unfold assignM
    split
    · rw [tau_len]; omega
    · split <;> (rw [tau_len]; omega)
  split
  · unfold timeM
    split
    · simp
    · split <;> (rw [tau_len]; omega)
  split
  · rw [choose_len]; omega
  split
  · unfold enteredM
    split <;> (rw [tau_len]; omega)
  split
  · have := flat_len (waitG s) (waitG_len s) p.gs
    omega
  split
  · unfold inM
    split
    · simp
    · rw [input_len]; omega
  split
  · unfold valuedM
    split
    · simp
    · split
      · rw [tau_len]; omega
      · repeat (first | (rw [tau_len]; omega) | simp | split)
  · simp
abbrev actsI (l : List ((ACT × List Nat) × Nat)) : List AV := l.map fun x => actF x.1 x.2
abbrev compI (s : ST) (l : List (PR × List Nat)) : List (ACT × List Nat) := l.flatMap fun cp => (doesM s cp.1).map fun a => (a, cp.2)
theorem compI_len {V : List KV} {C : List Int} (s : ST) : ∀ {l : List (PR × List Nat)}, (∀ cp, cp ∈ l → Loc V C cp.1) → (compI s l).length ≤ 16 * l.length
  | [], _ => Nat.le_refl _
  | cp :: r, h => by
    show (List.flatMap _ (cp :: r)).length ≤ _
    rw [List.flatMap_cons, List.length_append, List.length_map, List.length_cons]
    have h1 := does_len s (h cp (.head _))
    have h2 := compI_len s (l := r) fun x hx => h x (.tail _ hx)
    unfold compI at h2
    omega
theorem comp_loc {V : List KV} {C : List Int} {p : PR} (hok : okF (Loc V C) true false p) : ∀ cp, cp ∈ compR [] p → Loc V C cp.1 := fun cp hcp => by
  obtain ⟨h', hw⟩ := at_ok (comp_at (c := cp.1) (s := cp.2) hcp) hok
  rw [okF_eq] at hw
  exact hw.1.1
theorem acts_p (k : KN) (s : ST) (hg : GoodK k s) (hcl : (compR [] s.root).length ≤ 100000) : FunE Tryz.prog gs0 44 [rnA s] [] (fun l : List ((ACT × List Nat) × Nat) => .sl 17 (actsI l) none) (fun _ => []) (fun l => l.map Prod.fst = actsM s) := by
  have hloc := comp_loc hg.root
  have hht : ([] : List Nat).length + htR s.root ≤ 1000 := by
    have h1 := nf_ht (nf_of hg.nf)
    have h2 := hg.dw
    show 0 + _ ≤ _
    omega
  have hit := iter_n _ s.root [] false (Nat.le_refl _) hg.root (nf_of hg.nf) hht
  unfold FunE
  refine Fun.of (S := tt) (fn := Tryz.f44) (n := 33) tt_ok Tryz.func44 rfl rfl rfl rfl fun w0 h0 F hgs => ?_
  refine y_ ?_
  refine A.b rfl fun b1 => ?_
  refine A.b rfl fun b2 => ?_
  refine y_ ?_
  refine n_ (comps_p s.root []) ?_
  refine A.boxAs (b := b2) (x' := .sl 17 (actsI []) (some (.slice none 0 0))) (.refl _) (fun h y r => nil_own 17 r) ?_
  refine A.fullTail ty83.size 0 none (fun _ => rfl) (fun x h => by cases h) ?_
  refine y_ ?_
  refine A.keep [1, 2, 12] rfl ?_
  refine A.rangeIterN (xss := (compR [] s.root).map cpA) rfl .refl hit rfl rfl (fun xs hxs => ?_) (fun j Λ => ∃ (l : List ((ACT × List Nat) × Nat)) (z : Value), l.map Prod.fst = compI s ((compR [] s.root).take j) ∧ Λ = [.tail ty83.size z, .box b2 (.sl 17 (actsI l) (some z)), .box b1 (rnA s)])
    (fun st pd Λ => False) ⟨[], .slice none 0 0, rfl, rfl⟩ (fun h1 lp LR hl1 j xs Λi h2 hg2 F2 hxs hinv hl2 => ?_) (fun h1 hg1 r Λ' hl1 hinv => ?_) (fun h1 hg1 r st pd Λ' hl1 hst hs => hs.elim)
  · rw [List.mem_map] at hxs
    obtain ⟨cp, _, rfl⟩ := hxs
    rfl
  · obtain ⟨l, z, hl, rfl⟩ := hinv
    obtain ⟨cp, hcp, rfl⟩ : ∃ cp, (compR [] s.root)[j]? = some cp ∧ cpA cp = xs := by
      rw [List.getElem?_map] at hxs
      cases hq : (compR [] s.root)[j]? with
      | none => rw [hq] at hxs; cases hxs
      | some cp => rw [hq] at hxs; injection hxs with hxs; exact ⟨cp, rfl, hxs⟩
    have hlc := hloc cp (List.mem_of_getElem? hcp)
    have hdo := does_p k s hg cp.1 hlc
    have hd16 := does_len s hlc
    refine A.val 14 rfl (pathA_sb cp.2) ?_
    refine y_ ?_
    refine A.b rfl fun b3 => ?_
    refine y_ ?_
    refine A.b rfl fun b4 => ?_
    refine y_ ?_
    refine A.freezeS 4 b4 (y' := .pe 1 (pathL cp.2)) rfl rfl rfl .ptr ?_
    refine A.begin rfl rfl rfl ?_
    refine y_ ?_
    refine c_ hdo ?_
    refine A.valE 18 rfl (x' := AI ((doesM s cp.1).length : Nat)) (ai_eq (by rw [List.length_map])) ?_
    refine A.keep [1, 2, 4, 17, 18, 19] rfl ?_
    refine A.perm (List.perm_middle (l₁ := [_, _])) ?_
    refine A.loopP (ι := Nat × List ((ACT × List Nat) × Nat) × Value) (fun q => (⟨[(1, ptrA b1), (2, ptrA b2), (4, .pe 1 (pathL cp.2)), (17, actsA (doesM s cp.1)), (18, AI ((doesM s cp.1).length : Nat)), (19, AI (q.1 : Nat))], []⟩, [.tail ty83.size q.2.2, .loop lp LR .busy none, .box b3 (cellsR cp.1), .box b2 (.sl 17 (actsI q.2.1) (some q.2.2)), .box b1 (rnA s)]))
      (fun q => q.1 ≤ (doesM s cp.1).length ∧ q.2.1.map Prod.fst = compI s ((compR [] s.root).take j) ++ ((doesM s cp.1).take q.1).map fun a => (a, cp.2)) (fun q => (doesM s cp.1).length - q.1) (0, l, z) ⟨Nat.zero_le _, by rw [hl]; simp⟩ rfl fun q hi ih => ?_
    obtain ⟨i, l', z'⟩ := q
    obtain ⟨hi1, hi2⟩ := hi
    simp only at hi1 hi2
    refine y_ ?_
    refine k_ (fun hc=>?_) fun hc=>?_
    · have hci : i < (doesM s cp.1).length := by simpa using hc
      clear hc
      refine Exists.elim (at_exN (l := doesM s cp.1) (i := i) hci) fun a ha => ?_
      refine y_ ?_
      refine i_ rfl (map_at ha) rfl ?_
      refine A.b rfl fun b6 => ?_
      refine y_ ?_
      refine A.freezeS 28 b6 (y' := actF (a, cp.2) b6) rfl rfl rfl (.ag (.cons (.sub .refl) (.cons (.sub .refl) (.cons (.sub .refl) (.cons (.sub .refl) (.cons (.sub .refl) (.cons (.sub .refl) (.cons (.sub .refl) (.cons (.sub .refl) (.cons (.sub .refl) (.cons (.sub .refl) (.cons (.sub .refl) (.cons (.sub .refl) (.cons (.sub .refl) (.cons (.sub .refl) (.cons (.sub .refl) (.cons (.fn (.cons (.sub .refl) (.cons .ptr (.sub .refl)))) (.sub .refl)))))))))))))))))) ?_
      refine t_ fun bl=>?_
      refine A.append rfl rfl rfl rfl rfl rfl rfl rfl rfl rfl rfl rfl rfl rfl (by show ((actsI l').length + 1) * 17 ≤ _; rw [List.length_map]; have h1 := congrArg List.length hi2; rw [List.length_map, List.length_append, List.length_map, List.length_take] at h1; have h2 := compI_len s (l := (compR [] s.root).take j) (fun cp h => hloc cp (List.mem_of_mem_take h)); rw [List.length_take] at h2; omega) fun z2 => ?_
      refine e_ 30 rfl (x' := .sl 17 (actsI (l' ++ [((a, cp.2), b6)])) (some z2)) (by show AV.sl 17 (actsI l' ++ [actF (a, cp.2) b6]) _ = _; unfold actsI; rw [List.map_append]; rfl) ?_
      refine A.valE 19 rfl (x' := AI ((i + 1 : Nat) : Int)) (inc_eq i (by omega)) ?_
      refine l_ (Λ' := [.tail ty83.size z2, .loop lp LR .busy none, .box b3 (cellsR cp.1), .box b2 (.sl 17 (actsI (l' ++ [((a, cp.2), b6)])) (some z2)), .box b1 (rnA s)]) ?_
      refine u_ (ih (i + 1, l' ++ [((a, cp.2), b6)], z2) ⟨by show i + 1 ≤ _; omega, ?_⟩ (by show _ - (i + 1) < _ - i; omega))
      show (l' ++ [((a, cp.2), b6)]).map Prod.fst = _
      rw [List.map_append, hi2]
      show _ = compI s _ ++ (List.take (i + 1) _).map _
      rw [List.take_add_one, ha]
      simp
    have hci : ¬ i < (doesM s cp.1).length := by simpa using hc
    clear hc ih
    have hil : i = (doesM s cp.1).length := by omega
    refine y_ ?_
    refine A.perm (.swap _ _ _) ?_
    refine l_ (Λ' := [.loop lp LR .busy none, .tail ty83.size z', .box b2 (.sl 17 (actsI l') (some z')), .box b1 (rnA s)]) ?_
    refine A.roundEnd rfl rfl (.inl ⟨rfl, _, rfl, l', z', ?_, rfl⟩)
    rw [hi2, hil, List.take_length, List.take_add_one, hcp]
    unfold compI
    rw [List.flatMap_append]
    simp
  · obtain ⟨l, z, hl, rfl⟩ := hinv
    rw [List.length_map, List.take_length] at hl
    refine y_ ?_
    refine A.retC (Λ' := []) rfl rfl rfl rfl rfl (List.nil_sublist _) ⟨l, .own1, rfl, hl⟩
def kindOk (kind x : Int) : Prop := (kind = 2 → 0 ≤ x ∧ x ≤ 255) ∧ (kind = 3 → x = 0 ∨ x = 1)
theorem kindOk_fits {k x : Int} (h : fitsB k x = true) : kindOk k x := by
  unfold fitsB at h
  constructor
  · intro hk; subst hk; simp at h; exact h
  · intro hk; subst hk; simp at h; exact h
theorem kindOk_truth (k : Int) (b : Bool) (hk : k = 3) : kindOk k (truthI b) := ⟨fun h => by omega, fun _ => by cases b <;> simp [truthI]⟩
theorem kindOk_one (x : Int) : kindOk 1 x := ⟨fun h => by omega, fun h => by omega⟩
def goodS (l : List KV) (s : List (List Int)) : Prop := ∀ (i : Nat) (v : KV) (r : List Int), l[i]? = some v → s[i]? = some r → ∀ x, x ∈ r → fitsB v.kind x = true
theorem atM_kind {l : List KV} {s : List (List Int)} (hg : goodS l s) {v i x : Int} {y : KV} (hy : l[v.toNat]? = some y) (hx : atM s v i = some x) : fitsB y.kind x = true := by
  unfold atM at hx
  split at hx
  · cases hx
  · cases hr : s[v.toNat]? with
    | none => rw [hr] at hx; cases hx
    | some r => rw [hr] at hx; exact hg _ y r hy hr x (List.mem_of_getElem? hx)
theorem fits_value {l : List KV} {s : List (List Int)} (hg : goodS l s) {e : KE} (hf : fine e = true) {kind x : Int} (hk : fitsM l e kind = true) (hx : valM s e = some x) : kindOk kind x := by
  rcases fine_cases hf with ⟨n, rfl⟩ | ⟨v, h1, h2, rfl⟩ | ⟨v, a, h1, h2, h3, rfl⟩ | ⟨o, a, h1, h2, h3, rfl⟩ | ⟨o, a, b, h1, h2, h3, h4, rfl⟩ | ⟨t, a, h1, h2, h3, rfl⟩
  · simp [fitsM, fitsL, fitC] at hk
    simp [valM, valMl, combM] at hx
    subst hx
    exact ⟨fun h => by omega, fun h => by omega⟩
  · simp only [fitsM, fitsL, fitC] at hk
    simp [valM, valMl, combM] at hx
    rw [if_neg (by decide), if_pos trivial] at hk
    split at hk
    · rename_i y hy
      simp at hk
      rw [← hk.2]; exact kindOk_fits (atM_kind hg hy hx)
    · cases hk
  · simp only [fitsM, fitsL, fitC] at hk
    rw [if_neg (by decide), if_neg (by decide), if_pos trivial] at hk
    split at hk
    · rename_i y _ _ hy _
      simp at hk
      simp only [valM, valMl, combM] at hx
      cases ha : valM s a with
      | none => rw [ha] at hx; simp at hx
      | some z =>
        rw [ha] at hx; simp at hx
        rw [← hk.1.2]; exact kindOk_fits (atM_kind hg hy hx)
    · cases hk
  · simp only [fitsM, fitsL, fitC] at hk
    rw [if_neg (by decide), if_neg (by decide), if_neg (by decide)] at hk
    simp at hk
    simp only [valM, valMl, combM] at hx
    cases ha : valM s a with
    | none => rw [ha] at hx; simp at hx
    | some z =>
      rw [ha] at hx; simp at hx
      split at hk
      · rename_i ho
        subst ho
        simp [applyC] at hx
        rw [← hx.2]; exact kindOk_truth _ _ hk.1
      · rw [hk.1]; exact kindOk_one x
  · simp only [fitsM, fitsL, fitC] at hk
    rw [if_neg (by decide), if_neg (by decide), if_neg (by decide)] at hk
    simp only [valM, valMl, combM] at hx
    cases ha : valM s a with
    | none => rw [ha] at hx; simp at hx
    | some z =>
      rw [ha] at hx; simp at hx
      simp at hk
      split at hk
      · rw [hk.1]; exact kindOk_one x
      · rename_i ho
        have hk3 : kind = 3 := by
          by_cases h : kind = 3
          · exact h
          · simp [h] at hk
        subst hk3
        refine ⟨fun h => by omega, fun _ => ?_⟩
        split at hx
        · rename_i hsh
          simp at hx
          subst hx
          simp [isSh] at hsh; omega
        · cases hb : valM s b with
          | none => rw [hb] at hx; simp at hx
          | some w =>
            rw [hb] at hx; simp at hx
            have ho' : o = 14 ∨ o = 15 ∨ o = 16 ∨ o = 17 ∨ o = 18 ∨ o = 19 ∨ o = 20 ∨ o = 21 ∨ o = 22 := by omega
            have ht : ∀ c : Bool, truthI c = 0 ∨ truthI c = 1 := fun c => by cases c <;> simp [truthI]
            rcases ho' with rfl | rfl | rfl | rfl | rfl | rfl | rfl | rfl | rfl <;> simp [applyC] at hx
            · rw [← hx]; exact ht _
            · rw [← hx]; exact ht _
            · rw [← hx]; exact ht _
            · rw [← hx]; exact ht _
            · rw [← hx]; exact ht _
            · rw [← hx]; exact ht _
            · rw [← hx.2]; exact ht _
            · rw [← hx.2]; exact ht _
            · rw [← hx]; exact ht _
  · simp only [fitsM, fitsL, fitC] at hk
    rw [if_neg (by decide), if_neg (by decide), if_neg (by decide)] at hk
    simp at hk
    simp only [valM, valMl, combM] at hx
    cases ha : valM s a with
    | none => rw [ha] at hx; simp at hx
    | some z =>
      rw [ha] at hx; simp at hx
      rw [conv_fits] at hx
      split at hx
      · rename_i hz
        injection hx with hx
        subst hx
        rw [← hk.1]; exact kindOk_fits hz
      · cases hx
theorem may_good {l : List KV} {s : List (List Int)} (hs : soundsB l = true) (hlen : s.length = l.length) (hr : ∀ (i : Nat) (v : KV) (r : List Int), l[i]? = some v → s[i]? = some r → (r.length : Int) = longI v) (hg : goodS l s) : mayB l s = true := by
  simp only [mayB, hs, hlen, decide_true, Bool.true_and, allEq, List.all_eq_true, List.mem_range]
  intro i hi
  have h2 : i < s.length := by omega
  rw [List.getElem?_eq_getElem hi, List.getElem?_eq_getElem h2]
  simp only [mayRow, Bool.and_eq_true, beq_iff_eq]
  refine ⟨hr i _ _ (List.getElem?_eq_getElem hi) (List.getElem?_eq_getElem h2), ?_⟩
  simp only [Bool.not_eq_true', List.any_eq_false]
  intro x hx
  rw [hg i _ _ (List.getElem?_eq_getElem hi) (List.getElem?_eq_getElem h2) x hx]; simp
theorem long_pos (v : KV) : 0 < longI v := by unfold longI; split <;> omega
theorem store_len (l : List KV) : (storeM l).length = l.length := by rw [storeM, List.length_map]
theorem store_at {l : List KV} {i : Nat} {v : KV} {r : List Int} (hv : l[i]? = some v) (hr : (storeM l)[i]? = some r) : r = List.replicate (longI v).toNat 0 := by
  rw [storeM, List.getElem?_map, hv] at hr; injection hr with hr; exact hr.symm
theorem fits_zero {v : KV} (h : soundB v = true) : fitsB v.kind 0 = true := by
  simp [soundB] at h
  rcases h.1.1 with (h | h) | h <;> simp [fitsB, h]
theorem sounds_at {l : List KV} (h : soundsB l = true) {v : KV} (hv : v ∈ l) : soundB v = true := by
  simp [soundsB] at h; exact h.2 v hv
theorem store_good {l : List KV} (h : soundsB l = true) : goodS l (storeM l) := fun i v r hv hr x hx => by
  rw [store_at hv hr] at hx
  rw [(List.mem_replicate.1 hx).2]
  exact fits_zero (sounds_at h (List.mem_of_getElem? hv))
theorem may_store {l : List KV} (h : soundsB l = true) : mayB l (storeM l) = true := may_good h (store_len l) (fun i v r hv hr => by rw [store_at hv hr, List.length_replicate]; have := long_pos v; omega) (store_good h)
structure StOk (V : List KV) (st : List (List Int)) : Prop where
  may : mayB V st = true
  ws : wfS st
theorem may_parts {V : List KV} {st : List (List Int)} (h : mayB V st = true) : soundsB V = true ∧ st.length = V.length ∧ (∀ (i : Nat) (v : KV) (r : List Int), V[i]? = some v → st[i]? = some r → (r.length : Int) = longI v) ∧ goodS V st := by
  simp only [mayB, Bool.and_eq_true, decide_eq_true_eq, allEq, List.all_eq_true, List.mem_range] at h
  obtain ⟨⟨h1, h2⟩, h3⟩ := h
  have hm : ∀ (i : Nat) (v : KV) (r : List Int), V[i]? = some v → st[i]? = some r → mayRow v r = true := fun i v r hv hr => by
    have := h3 i (at_lt hv)
    rw [hv, hr] at this; exact this
  refine ⟨h2, h1, fun i v r hv hr => ?_, fun i v r hv hr x hx => ?_⟩
  · have := hm i v r hv hr
    simp only [mayRow, Bool.and_eq_true, beq_iff_eq] at this
    exact this.1
  · have := hm i v r hv hr
    simp only [mayRow, Bool.and_eq_true, Bool.not_eq_true', List.any_eq_false] at this
    have := this.2 x hx
    simpa using this
theorem StOk.put {V : List KV} {st : List (List Int)} (h : StOk V st) {v i x : Int} (hx : i32 x) (hk : ∀ y, V[v.toNat]? = some y → fitsB y.kind x = true) : StOk V (putM st v i x) := by
  obtain ⟨h1, h2, h3, h4⟩ := may_parts h.may
  unfold putM
  by_cases ha : (atM st v i).isSome = true
  · rw [if_pos ha]
    cases hr : st[v.toNat]? with
    | none => exact h
    | some r =>
      show StOk V (st.set v.toNat (r.set i.toNat x))
      have hin : ∀ z, z ∈ r.set i.toNat x → z ∈ r ∨ z = x := fun z hz => List.mem_or_eq_of_mem_set hz
      refine ⟨may_good h1 (by show (st.set _ _).length = _; rw [List.length_set]; exact h2) (fun j y q hy hq => ?_) (fun j y q hy hq z hz => ?_), fun q hq z hz => ?_⟩
      · replace hq : (st.set v.toNat (r.set i.toNat x))[j]? = some q := hq
        rw [List.getElem?_set] at hq
        split at hq
        · rename_i hj
          subst hj
          split at hq
          · injection hq with hq
            rw [← hq, List.length_set]; exact h3 _ y r hy hr
          · cases hq
        · exact h3 j y q hy hq
      · replace hq : (st.set v.toNat (r.set i.toNat x))[j]? = some q := hq
        rw [List.getElem?_set] at hq
        split at hq
        · rename_i hj
          subst hj
          split at hq
          · injection hq with hq
            rw [← hq] at hz
            rcases hin z hz with hz | rfl
            · exact h4 _ y r hy hr z hz
            · exact hk y hy
          · cases hq
        · exact h4 j y q hy hq z hz
      · replace hq : q ∈ st.set v.toNat (r.set i.toNat x) := hq
        rcases List.mem_or_eq_of_mem_set hq with hq | hq
        · exact h.ws q hq z hz
        · rw [hq] at hz
          rcases hin z hz with hz | rfl
          · exact h.ws r (List.mem_of_getElem? hr) z hz
          · exact hx
  · rw [if_neg ha]; exact h
theorem StOk.small {V : List KV} {st : List (List Int)} (h : StOk V st) : Small st := mayB_short h.may
theorem prim_fits {k x : Int} (hk : k = 1 ∨ k = 2 ∨ k = 3) (h : kindOk k x) : fitsB k x = true := by
  obtain ⟨h2, h3⟩ := h
  rcases hk with rfl | rfl | rfl
  · rfl
  · have := h2 rfl; simp [fitsB]; omega
  · have := h3 rfl; simpa [fitsB] using this
theorem sound_prim {v : KV} (h : soundB v = true) : v.kind = 1 ∨ v.kind = 2 ∨ v.kind = 3 := by
  simp [soundB] at h
  rcases h.1.1 with (h | h) | h
  · exact .inl h
  · exact .inr (.inl h)
  · exact .inr (.inr h)
theorem place_v {st : List (List Int)} {v : Int} {ix : List KE} {p : Int × Int} (h : placeM st v ix = some p) : p.1 = v := by
  match ix, h with
  | [], h =>
    rw [placeM] at h
    split at h
    · injection h with h; rw [← h]
    · cases h
  | [e], h =>
    rw [placeM] at h
    split at h
    · split at h
      · injection h with h; rw [← h]
      · cases h
    · cases h
theorem placeB_at {V : List KV} {t : PL} {k : Int} (h : placeB V t k = true) : ∀ y, V[t.v.toNat]? = some y → y.kind = k := fun y hy => by
  unfold placeB at h
  split at h
  · cases h
  · rw [hy] at h
    simp only [Bool.and_eq_true, beq_iff_eq] at h
    exact h.1
theorem value_fits {V : List KV} {st : List (List Int)} (hs : StOk V st) {e : KE} {k x : Int} (hf : fitV V e k = true) (hv : valueM st e = some x) : kindOk k x := by
  obtain ⟨h1, h2, h3, h4⟩ := may_parts hs.may
  unfold fitV at hf
  simp only [Bool.and_eq_true, decide_eq_true_eq] at hf
  unfold valueM at hv
  rw [if_pos hf.1] at hv
  exact fits_value h4 hf.1.1 hf.2 hv
theorem value_in {V : List KV} {st : List (List Int)} (hs : StOk V st) {e : KE} {x : Int} (hw : wfK e) (hv : valueM st e = some x) : i32 x := valueM_in hs.ws hw x hv
theorem valid_num (n : Int) : valid (numE n) := by
  refine ⟨?_, ?_, ?_⟩
  · simp [numE, fine, finel, shapeB]
  · simp [numE, sz, szl]
  · simp [numE, ht, htl]
theorem fit_num1 (V : List KV) (n : Int) : fitV V (numE n) 1 = true := by
  unfold fitV
  rw [decide_eq_true (valid_num n)]
  simp [numE, fitsM, fitsL, fitC]
theorem fit_num3 (V : List KV) {n : Int} (h : n = 0 ∨ n = 1) : fitV V (numE n) 3 = true := by
  unfold fitV
  rw [decide_eq_true (valid_num n)]
  rcases h with rfl | rfl <;> simp [numE, fitsM, fitsL, fitC]
theorem wf_num {n : Int} (h : i32 n) : wfK (numE n) ∧ smK (numE n) := by
  unfold i32 at h
  constructor
  · simp only [numE, wfK, wfKl, u8, i32, i64]; exact ⟨⟨by omega, by omega, by omega, h, by omega⟩, trivial⟩
  · simp [numE, smK, smKl]
structure ActOk (V : List KV) (C : List Int) (c : PR) (a : ACT) : Prop where
  ok : ∀ h, okF (Loc V C) true h c → okF (Loc V C) true h a.next
  wt : wtR a.next ≤ wtR c
  dw : dwR a.next ≤ dwR c
  kinds : a.kind = 116 ∨ a.kind = 105 ∨ a.kind = 111
  tau : a.kind = 116 → StOk V a.store
  inp : a.kind = 105 → (c.kind = 5 ∨ c.kind = 16) ∧ (∀ y, V[a.v.toNat]? = some y → y.kind = a.item) ∧ (a.c = 0 → a.item = 1)
  out : a.kind = 111 → c.kind = 6 ∧ i32 a.value
structure Leaf (c : PR) : Prop where
  k9 : c.kind ≠ 9
  kb : ¬ (c.kind = 10 ∨ c.kind = 11)
theorem Leaf.wt {c : PR} (h : Leaf c) : wtR c = 2 + szL c.l + szGs c.gs + wtL c.l + wtGs c.gs := by rw [wtR_eq, if_neg h.k9, if_neg h.kb]
theorem Leaf.dw {c : PR} (h : Leaf c) : dwR c = 1 + max (1 + max (htL c.l) (htGs c.gs)) (max (dwL c.l) (dwGs c.gs)) := by rw [dwR_eq, if_neg h.k9, if_neg h.kb]
theorem wtGs_mem : ∀ {l : List GD} {g : GD}, g ∈ l → wtG g ≤ wtGs l ∧ dwG g ≤ dwGs l
  | x :: r, g, h => by
    rw [wtGs, dwGs]
    rcases List.mem_cons.1 h with rfl | h
    · omega
    · have := wtGs_mem h; omega
section
variable {V : List KV} {C : List Int}
structure NextOk (V : List KV) (C : List Int) (c q : PR) : Prop where
  ok : ∀ h, okF (Loc V C) true h c → okF (Loc V C) true h q
  wt : wtR q ≤ wtR c
  dw : dwR q ≤ dwR c
theorem next_skip {c : PR} (h : Leaf c) : NextOk V C c skipR := ⟨fun _ _ => ok_skip loc_lax _ _, by rw [wt_skip, h.wt]; omega, by rw [dw_skip, h.dw]; omega⟩
theorem next_stop {c : PR} (h : Leaf c) : NextOk V C c stopR := ⟨fun _ _ => ok_stop loc_lax _ _, by rw [wt_stop, h.wt]; omega, by rw [dw_stop, h.dw]; omega⟩
theorem next_body {c : PR} (h : Leaf c) {g : GD} (hg : g ∈ c.gs) {y : PR} (hy : g.body = [y]) : NextOk V C c y := by
  have h1 := wtGs_mem hg
  rw [wtG_eq, dwG_eq, hy, wtL, wtL, dwL, dwL] at h1
  refine ⟨fun hh hw => ?_, by rw [h.wt]; omega, by rw [h.dw]; omega⟩
  rw [okF_eq] at hw
  have h2 := okFs_mem hw.2.2 g hg
  rw [okFg_eq, hy, okFl_1] at h2
  exact okF_mono (fun _ => rfl) h2.1
theorem tau_ok {c q : PR} {st : List (List Int)} (hs : StOk V st) (hn : NextOk V C c q) : ∀ a, a ∈ tauM st q → ActOk V C c a := fun a ha => by
  rw [List.mem_singleton.1 ha]
  exact ⟨hn.ok, hn.wt, hn.dw, .inl rfl, fun _ => hs, (fun h => by cases h), (fun h => by cases h)⟩
theorem input_ok {c q : PR} {s : ST} (hs : StOk V s.store) (hl : Leaf c) (hn : NextOk V C c q) (hk : c.kind = 5 ∨ c.kind = 16) {ch item : Int} {to : PL} (hi : inputB V C.length ch item to = true) : ∀ a, a ∈ inputM s ch item to q → ActOk V C c a := fun a ha => by
  unfold inputB chanB at hi
  simp only [Bool.and_eq_true, Bool.or_eq_true, decide_eq_true_eq, beq_iff_eq] at hi
  unfold inputM at ha
  split at ha
  · exact tau_ok hs (next_stop hl) a ha
  · rename_i v i hp
    have hv := place_v hp
    rw [List.mem_singleton.1 ha]
    refine ⟨hn.ok, hn.wt, hn.dw, .inr (.inl rfl), (fun h => by cases h), fun _ => ⟨hk, ?_, ?_⟩, (fun h => by cases h)⟩
    · have hv : v = to.v := hv
      show ∀ y, V[v.toNat]? = some y → _
      rw [hv]; exact placeB_at hi.2
    · intro h0
      have h0 : ch = 0 := h0
      have := hi.1.2
      show item = 1
      omega
theorem goods {st : List (List Int)} (h : StOk V st) {v : KV} {i : Nat} (hv : V[i]? = some v) : soundB v = true := sounds_at (may_parts h.may).1 (List.mem_of_getElem? hv)
theorem clear_ok {st : List (List Int)} (h : StOk V st) (v : Int) : ∀ n, StOk V (clearM st v n)
  | 0 => h
  | n + 1 => by
    rw [clearM_succ]
    exact (clear_ok h v n).put (by unfold i32; omega) fun y hy => fits_zero (goods h hy)
theorem puts_ok {st0 : List (List Int)} (h0 : StOk V st0) : ∀ (tos : List PL) (es : List KE) (xs : List Int) (st st' : List (List Int)), StOk V st → tos.length = es.length → (∀ e, e ∈ es → wfK e) → (tos.zip es).all (fun te => assignB V te.1 te.2) = true → valsM st0 es = some xs → putsM st0 tos xs st = some st' → StOk V st'
  | [], es, xs, st, st', h, _, _, _, _, hp => by
    rw [putsM] at hp; injection hp with hp; rw [← hp]; exact h
  | to :: tos, [], xs, st, st', h, hl, _, _, _, _ => by cases hl
  | to :: tos, e :: es, xs, st, st', h, hl, hw, ha, hx, hp => by
    rw [List.zip_cons_cons, List.all_cons, Bool.and_eq_true] at ha
    rw [valsM] at hx
    cases hv : valueM st0 e with
    | none => rw [hv] at hx; cases hx
    | some x =>
      rw [hv] at hx
      simp only [Option.map_eq_some_iff] at hx
      obtain ⟨xr, hxr, rfl⟩ := hx
      rw [putsM] at hp
      cases hpl : placeM st0 to.v to.ix with
      | none => rw [hpl] at hp; cases hp
      | some vj =>
        obtain ⟨v, j⟩ := vj
        rw [hpl] at hp
        simp only at hp
        refine puts_ok h0 tos es xr _ st' (h.put (value_in h0 (hw e (.head _)) hv) fun y hy => ?_) (by simpa using hl) (fun e' he' => hw e' (.tail _ he')) ha.2 hxr hp
        have hvv : v = to.v := place_v hpl
        rw [hvv] at hy
        have h1 := ha.1
        unfold assignB at h1
        split at h1
        · cases h1
        · simp only [hy, Bool.and_eq_true] at h1
          exact prim_fits (sound_prim (goods h hy)) (value_fits h0 h1.2 hv)
theorem assign_ok {c : PR} {s : ST} (hs : StOk V s.store) (hl : Leaf c) (hw : ∀ x, x ∈ c.e → wfK x) (h1 : c.to.length = c.e.length) (h2 : (c.to.zip c.e).all (fun te => assignB V te.1 te.2) = true) : ∀ a, a ∈ assignM s c → ActOk V C c a := fun a ha => by
  unfold assignM at ha
  split at ha
  · exact tau_ok hs (next_stop hl) a ha
  · rename_i xs hxs
    split at ha
    · exact tau_ok hs (next_stop hl) a ha
    · rename_i st hst
      exact tau_ok (puts_ok hs _ _ _ _ _ hs h1 hw h2 hxs hst) (next_skip hl) a ha
theorem time_ok {c : PR} {s : ST} (hs : StOk V s.store) (ht : i32 s.time) (hl : Leaf c) {t : PL} {r : List PL} (hto : c.to = t :: r) (hp : placeB V t 1 = true) : ∀ a, a ∈ timeM s c → ActOk V C c a := fun a ha => by
  unfold timeM at ha
  rw [hto] at ha
  simp only at ha
  split at ha
  · exact tau_ok hs (next_stop hl) a ha
  · rename_i v i hpl
    have hv : v = t.v := place_v hpl
    refine tau_ok (hs.put ht fun y hy => ?_) (next_skip hl) a ha
    rw [hv] at hy
    rw [placeB_at hp y hy]; rfl
theorem choose_ok {c : PR} {s : ST} (hs : StOk V s.store) (hl : Leaf c) (hb : ∀ g, g ∈ c.gs → ∃ y, g.body = [y]) : ∀ (l : List GD), (∀ g, g ∈ l → g ∈ c.gs) → ∀ a, a ∈ chooseM s l → ActOk V C c a
  | [], _, a, ha => tau_ok hs (next_stop hl) a (by rw [chooseM] at ha; exact ha)
  | g :: r, hg, a, ha => by
    rw [chooseM] at ha
    split at ha
    · exact tau_ok hs (next_stop hl) a ha
    · split at ha
      · obtain ⟨y, hy⟩ := hb g (hg g (.head _))
        rw [hy] at ha
        exact tau_ok hs (next_body hl (hg g (.head _)) hy) a ha
      · exact choose_ok hs hl hb r (fun g' h' => hg g' (.tail _ h')) a ha
theorem guard_in {g : GD} {b : Bool} (h : guardB V C.length g b = true) (h3 : g.kind = 3) : inputB V C.length g.c g.item g.to = true := by
  unfold guardB at h
  rw [if_neg (by omega), if_pos h3] at h
  simp only [Bool.and_eq_true] at h
  exact h.2.2
theorem wait_ok {c : PR} {s : ST} (hs : StOk V s.store) (hl : Leaf c) (hk : c.kind = 16) (hb : ∀ g, g ∈ c.gs → ∃ y, g.body = [y]) (hG : ∀ g, g ∈ c.gs → guardB V C.length g false = true) : ∀ a, a ∈ c.gs.flatMap (waitG s) → ActOk V C c a := fun a ha => by
  rw [List.mem_flatMap] at ha
  obtain ⟨g, hg, ha⟩ := ha
  obtain ⟨y, hy⟩ := hb g hg
  unfold waitG at ha
  rw [hy] at ha
  split at ha
  · cases ha
  · split at ha
    · rename_i h3
      exact input_ok hs hl (next_body hl hg hy) (.inr hk) (guard_in (hG g hg) h3) a ha
    · split at ha
      · exact tau_ok hs (next_body hl hg hy) a ha
      · cases ha
theorem next_loop {c b : PR} (hl : Leaf c) (hk : c.kind = 13) (hb : c.l = [b]) : NextOk V C c ⟨9, 0, 0, 0, [], [], [], [headR c.l, c]⟩ := by
  have hh : headR c.l = b := by rw [hb]; rfl
  have hs1 : szR c = 1 + szL c.l + szGs c.gs := szR_eq c
  have hh1 := htR_eq c
  have hw := hl.wt
  have hd := hl.dw
  rw [hb] at hs1 hh1 hw hd
  rw [szL, szL] at hs1
  rw [htL, htL] at hh1
  rw [wtL, wtL, szL, szL] at hw
  rw [dwL, dwL, htL, htL] at hd
  refine ⟨fun h w => ?_, ?_, ?_⟩
  · rw [hh, okF_eq]
    have w0 := w
    rw [okF_eq] at w
    obtain ⟨⟨w1, w2, w3⟩, w4, w5⟩ := w
    refine ⟨⟨⟨?_, (by intro h; cases h), (by show 1 + 2 + 0 ≤ 2048; omega), (by intro t h; cases h), (by intro t h; cases h), (by intro t h; cases h)⟩, (by intro h; cases h), (by intro h; cases h)⟩, ?_, by show okFs _ _ []; rw [okFs]; trivial⟩
    · show shapeR ⟨9, 0, 0, 0, [], [], [], [b, c]⟩ false false 0 0 0 0 0 0 0 2048 = true
      rfl
    · show okFl (Loc V C) true false (h || false) h [b, c]
      rw [hb, hk] at w4
      have w4 : okFl (Loc V C) (true && false) (true && false) (h || false) h [b] := w4
      rw [okFl_1] at w4
      rw [okFl_1, okFl_1]
      refine ⟨okF_mono (fun _ => rfl) w4.1, ?_, okFl_0⟩
      rw [okF_eq]
      refine ⟨⟨w1, fun h => by omega, w3⟩, ?_, w5⟩
      rw [hb, hk]
      show okFl (Loc V C) false false (h || false) h [b]
      rw [okFl_1]
      exact ⟨w4.1, okFl_0⟩
  · rw [wtR_eq, if_pos rfl]
    show szGs [] + wtS [headR c.l, c] ≤ _
    rw [hh, wtS_2, wtS_1, szL, szL, szGs]
    omega
  · rw [dwR_eq, if_pos rfl]
    show max (1 + htGs []) (dwS [headR c.l, c]) ≤ _
    rw [hh, dwS_2, dwS_1, htL, htL, htGs]
    omega
theorem valued_ok {c : PR} {s : ST} (hs : StOk V s.store) (hl : Leaf c) (hw : ∀ x, x ∈ c.e → wfK x) (hk : c.kind = 6 ∨ c.kind = 8 ∨ c.kind = 13) (hb : c.kind = 13 → ∃ b, c.l = [b]) : ∀ a, a ∈ valuedM s c → ActOk V C c a := fun a ha => by
  unfold valuedM at ha
  split at ha
  · cases ha
  · rename_i e r he
    split at ha
    · exact tau_ok hs (next_stop hl) a ha
    · rename_i x hx
      have hxi := value_in hs (hw e (by rw [he]; exact .head _)) hx
      split at ha
      · rename_i h6
        have hn := next_skip (V := V) (C := C) hl
        rw [List.mem_singleton.1 ha]
        exact ⟨hn.ok, hn.wt, hn.dw, .inr (.inr rfl), (fun h => by cases h), (fun h => by cases h), fun _ => ⟨h6, hxi⟩⟩
      · split at ha
        · rename_i h13
          obtain ⟨b, hb⟩ := hb h13.1
          exact tau_ok hs (next_loop hl h13.1 hb) a ha
        · split at ha
          · exact tau_ok hs (next_skip hl) a ha
          · cases ha
theorem enter_g {st : List (List Int)} (hs : StOk V st) {g g' : GD} (hw : wfK g.cond ∧ wfK g.time) (hwp : wfPl g.to ∧ smP g.to) (hsm : smK g.cond ∧ smK g.time) (hG : guardB V C.length g false = true) (h : enterG st g = some g') :
    g'.body = g.body ∧ guardB V C.length g' false = true ∧ waitsG g' = true ∧ (wfK g'.cond ∧ smK g'.cond) ∧ (wfK g'.time ∧ smK g'.time) ∧ (wfPl g'.to ∧ smP g'.to) := by
  unfold enterG at h
  cases hx : valueM st g.cond with
  | none => rw [hx] at h; cases h
  | some x =>
    rw [hx] at h
    simp only at h
    have hG0 := hG
    unfold guardB at hG
    simp only [Bool.and_eq_true] at hG
    obtain ⟨⟨⟨g1, g2⟩, g3⟩, g4⟩ := hG
    have hx3 : x = 0 ∨ x = 1 := (value_fits hs g2 hx).2 rfl
    have hxi := value_in hs hw.1 hx
    have hn := wf_num hxi
    split at h
    · rename_i h4
      cases ht : valueM st g.time with
      | none => rw [ht] at h; cases h
      | some t =>
        rw [ht] at h
        injection h with h
        have hti := value_in hs hw.2 ht
        rw [← h]
        refine ⟨rfl, ?_, ?_, hn, wf_num hti, hwp⟩
        · unfold guardB
          simp only [Bool.and_eq_true]
          refine ⟨⟨⟨g1, fit_num3 V hx3⟩, g3⟩, ?_⟩
          have e1 : ¬ (g.kind = 1 ∨ g.kind = 2) := by omega
          have e2 : ¬ g.kind = 3 := by omega
          show (if g.kind = 1 ∨ g.kind = 2 then _ else if g.kind = 3 then _ else if g.kind = 4 then _ else false) = true
          rw [if_neg e1, if_neg e2, if_pos h4] at g4 ⊢
          rw [Bool.and_eq_true] at g4 ⊢
          exact ⟨g4.1, fit_num1 V t⟩
        · unfold waitsG; simp [numE]
    · rename_i h4
      injection h with h
      rw [← h]
      refine ⟨rfl, ?_, ?_, hn, ⟨hw.2, hsm.2⟩, hwp⟩
      · unfold guardB
        simp only [Bool.and_eq_true]
        exact ⟨⟨⟨g1, fit_num3 V hx3⟩, g3⟩, g4⟩
      · unfold waitsG
        simp [numE, h4]
theorem enter_all {st : List (List Int)} : ∀ {l l' : List GD}, enterM st l = some l' → l'.length = l.length ∧ ∀ g', g' ∈ l' → ∃ g, g ∈ l ∧ enterG st g = some g'
  | [], l', h => by rw [enterM] at h; injection h with h; rw [← h]; exact ⟨rfl, (by intro g h; cases h)⟩
  | g :: r, l', h => by
    rw [enterM] at h
    cases hg : enterG st g with
    | none => rw [hg] at h; cases h
    | some y =>
      rw [hg] at h
      simp only [Option.map_eq_some_iff] at h
      obtain ⟨r', hr, rfl⟩ := h
      obtain ⟨h1, h2⟩ := enter_all hr
      refine ⟨by rw [List.length_cons, List.length_cons, h1], fun g' hg' => ?_⟩
      rcases List.mem_cons.1 hg' with rfl | hg'
      · exact ⟨g, .head _, hg⟩
      · obtain ⟨q, q1, q2⟩ := h2 g' hg'
        exact ⟨q, .tail _ q1, q2⟩
theorem enter_body {st : List (List Int)} {g g' : GD} (h : enterG st g = some g') : g'.body = g.body := by
  unfold enterG at h
  split at h
  · cases h
  · split at h
    · split at h
      · cases h
      · injection h with h; rw [← h]
    · injection h with h; rw [← h]
theorem enter_sz {st : List (List Int)} : ∀ {l l' : List GD}, enterM st l = some l' → szGs l' = szGs l ∧ wtGs l' = wtGs l ∧ htGs l' = htGs l ∧ dwGs l' = dwGs l ∧ ∀ h, okFs (Loc V C) h l → okFs (Loc V C) h l'
  | [], l', h => by rw [enterM] at h; injection h with h; rw [← h]; exact ⟨rfl, rfl, rfl, rfl, fun _ w => w⟩
  | g :: r, l', h => by
    rw [enterM] at h
    cases hg : enterG st g with
    | none => rw [hg] at h; cases h
    | some y =>
      rw [hg] at h
      simp only [Option.map_eq_some_iff] at h
      obtain ⟨r', hr, rfl⟩ := h
      obtain ⟨h1, h2, h3, h4, h5⟩ := enter_sz hr
      have hb := enter_body hg
      refine ⟨by rw [szGs, szGs, szG_eq, szG_eq, hb, h1], by rw [wtGs, wtGs, wtG_eq, wtG_eq, hb, h2], by rw [htGs, htGs, htG_eq, htG_eq, hb, h3], by rw [dwGs, dwGs, dwG_eq, dwG_eq, hb, h4], fun h w => ?_⟩
      rw [okFs, okFg_eq] at w ⊢
      rw [hb]; exact ⟨w.1, h5 h w.2⟩
theorem next_enter {c : PR} {s : ST} (hs : StOk V s.store) (hl : Leaf c) (hc : Loc V C c) (hG : ∀ g, g ∈ c.gs → guardB V C.length g false = true) {gs' : List GD} (h : enterM s.store c.gs = some gs') : NextOk V C c ⟨16, 0, 0, 0, [], [], gs', []⟩ := by
  obtain ⟨e1, e2⟩ := enter_all h
  obtain ⟨s1, s2, s3, s4, s5⟩ := enter_sz (V := V) (C := C) h
  have hg : ∀ g', g' ∈ gs' → guardB V C.length g' false = true ∧ waitsG g' = true ∧ (wfK g'.cond ∧ smK g'.cond) ∧ (wfK g'.time ∧ smK g'.time) ∧ (wfPl g'.to ∧ smP g'.to) := fun g' hg' => by
    obtain ⟨g, hgm, hge⟩ := e2 g' hg'
    have h1 := hc.gs g hgm
    exact (enter_g hs ⟨h1.1.1, h1.2.1.1⟩ h1.2.2 ⟨h1.1.2, h1.2.1.2⟩ (hG g hgm) hge).2
  obtain ⟨l1, l2, l3, l4⟩ := hc.lens
  refine ⟨fun h w => ?_, ?_, ?_⟩
  · rw [okF_eq] at w ⊢
    obtain ⟨⟨w1, w2, w3⟩, w4, w5⟩ := w
    refine ⟨⟨⟨?_, fun _ g' hg' => (hg g' hg').2.1, ?_, (by intro t h; cases h), (by intro t h; cases h), fun g' hg' => (hg g' hg').2.2⟩, (fun _ => rfl), (by intro h; cases h)⟩, okFl_0, s5 h w5⟩
    · show (shapeR ⟨14, 0, 0, 0, [], [], gs', []⟩ false false 0 0 0 0 0 16 0 0 && gs'.all fun g => guardB V C.length g false) = true
      rw [Bool.and_eq_true]
      refine ⟨?_, List.all_eq_true.2 fun g' hg' => (hg g' hg').1⟩
      have : gs'.length ≤ 16 := by omega
      simp [shapeR, inB]
      have h2 : (gs'.length : Int) ≤ 16 := by omega
      exact h2
    · show 1 + 0 + gs'.length ≤ 2048; omega
  · rw [wtR_eq, if_neg (by show ¬ (16 : Int) = 9; decide), if_neg (by show ¬ ((16 : Int) = 10 ∨ (16 : Int) = 11); decide), hl.wt]
    show 2 + szL [] + szGs gs' + wtL [] + wtGs gs' ≤ _
    rw [szL, wtL, s1, s2]; omega
  · rw [dwR_eq, if_neg (by show ¬ (16 : Int) = 9; decide), if_neg (by show ¬ ((16 : Int) = 10 ∨ (16 : Int) = 11); decide), hl.dw]
    show 1 + max (1 + max (htL []) (htGs gs')) (max (dwL []) (dwGs gs')) ≤ _
    rw [htL, dwL, s3, s4]; omega
theorem entered_ok {c : PR} {s : ST} (hs : StOk V s.store) (hl : Leaf c) (hc : Loc V C c) (hG : ∀ g, g ∈ c.gs → guardB V C.length g false = true) : ∀ a, a ∈ enteredM s c → ActOk V C c a := fun a ha => by
  unfold enteredM at ha
  split at ha
  · exact tau_ok hs (next_stop hl) a ha
  · rename_i gs' hg
    exact tau_ok hs (next_enter hs hl hc hG hg) a ha
theorem Loc.guards {c : PR} (h : Loc V C c) (hk : c.kind = 14 ∨ c.kind = 15 ∨ c.kind = 16) : ∀ g, g ∈ c.gs → guardB V C.length g false = true := by
  have h1 := h.kind
  obtain ⟨k, c, v, i, to, e, gs, l⟩ := c
  have hk : k = 14 ∨ k = 15 ∨ k = 16 := hk
  have h3 : ∀ kk : Int, kk = 14 ∨ kk = 15 → kindB V C.length ⟨kk, c, v, i, to, e, gs, l⟩ = true → ∀ g, g ∈ gs → guardB V C.length g false = true := by
    intro kk hkk h2 g hg
    rcases hkk with rfl | rfl
    · have h4 : (shapeR ⟨14, c, v, i, to, e, gs, l⟩ false false 0 0 0 0 0 16 0 0 && gs.all fun g => guardB V C.length g false) = true := h2
      rw [Bool.and_eq_true] at h4
      exact List.all_eq_true.1 h4.2 g hg
    · have h4 : (shapeR ⟨15, c, v, i, to, e, gs, l⟩ false false 0 0 0 0 0 16 0 0 && gs.all fun g => guardB V C.length g false) = true := h2
      rw [Bool.and_eq_true] at h4
      exact List.all_eq_true.1 h4.2 g hg
  refine h3 (if k = 16 then 14 else k) ?_ h1
  split
  · exact .inl rfl
  · omega
theorem does_ok {c : PR} {s : ST} (hs : StOk V s.store) (ht : i32 s.time) (hl : Leaf c) (hc : Loc V C c) : ∀ a, a ∈ doesM s c → ActOk V C c a := by
  have hwe : ∀ x, x ∈ c.e → wfK x := fun x hx => (hc.e x hx).1
  unfold doesM
  split
  · exact tau_ok (clear_ok hs _ _) (next_skip hl)
  split
  · rename_i k4
    obtain ⟨h1, h2⟩ := hc.k4 k4
    exact assign_ok hs hl hwe h1 h2
  split
  · rename_i k7
    obtain ⟨t, h1, h2⟩ := hc.k7 k7
    exact time_ok hs ht hl h1 h2
  split
  · exact choose_ok hs hl hc.body c.gs fun g hg => hg
  split
  · rename_i k14
    exact entered_ok hs hl hc (hc.guards (by omega))
  split
  · rename_i k16
    exact wait_ok hs hl k16 hc.body (hc.guards (by omega))
  split
  · rename_i k5
    obtain ⟨t, h1, h2⟩ := hc.k5 k5
    unfold inM
    rw [h1]
    exact input_ok hs hl (next_skip hl) (.inl k5) h2
  split
  · rename_i k8
    refine valued_ok hs hl hwe (by omega) fun k13 => ?_
    obtain ⟨e, b, h1, h2, h3⟩ := hc.k13 k13
    exact ⟨b, h2⟩
  · intro a ha; cases ha
theorem does_wt {c : PR} {s : ST} (hl : Leaf c) (hc : Loc V C c) : (doesM s c).length ≤ wtR c := by
  have hw := hl.wt
  have h2 : ∀ l : List GD, (∀ g, g ∈ l → ∃ y, g.body = [y]) → l.length ≤ szGs l := by
    intro l
    induction l with
    | nil => intro _; exact Nat.zero_le _
    | cons x r ih =>
      intro hb
      obtain ⟨y, hy⟩ := hb x (.head _)
      have := ih fun g hg => hb g (.tail _ hg)
      have := szR_pos y
      rw [szGs, List.length_cons, szG_eq, hy, szL, szL]; omega
  have h3 := h2 c.gs hc.body
  unfold doesM
  split
  · rw [tau_len]; omega
  split
  · unfold assignM
    split
    · rw [tau_len]; omega
    · split <;> (rw [tau_len]; omega)
  split
  · unfold timeM
    split
    · simp
    · split <;> (rw [tau_len]; omega)
  split
  · rw [choose_len]; omega
  split
  · unfold enteredM
    split <;> (rw [tau_len]; omega)
  split
  · have := flat_len (waitG s) (waitG_len s) c.gs
    omega
  split
  · unfold inM
    split
    · simp
    · rw [input_len]; omega
  split
  · unfold valuedM
    split
    · simp
    · split
      · rw [tau_len]; omega
      · repeat (first | (rw [tau_len]; omega) | (show 1 ≤ _; omega) | (show 0 ≤ _; omega) | split)
  · exact Nat.zero_le _
end
theorem cloned_p (r : List Int) (hr : r.length ≤ 35184372088832) : Pure Tryz.prog gs0 35 [rowA r] (rowA r) := by
  cases r with
  | nil =>
    refine p_ tt_ok Tryz.func35 8 fun w0 h0 F hgs => ?_
    refine y_ ?_
    refine A.eqNil rfl rfl rfl rfl rfl rfl rfl rfl fun b hb => ?_
    cases b
    · refine y_ ?_
      refine A.lit0 rfl rfl rfl rfl rfl rfl rfl fun bl => ?_; refine y_ ?_; refine A.appendNewW rfl rfl rfl rfl rfl rfl rfl rfl rfl rfl rfl rfl rfl (by show (List.map AI32 _).length * 1 ≤ _; rw [List.length_map]; omega) (by show (List.map AI32 _).length * 1 * 4 ≤ _; rw [List.length_map]; omega) (fun x hx => by injection hx with hx; subst hx; rfl) (row_one _) fun z => ?_; refine y_ ?_
      refine A.freezeRowS 2 z (y' := rowA []) rfl fz_ ?_
      exact r_
    · refine y_ ?_
      refine R_ ?_; exact .nil
  | cons x r =>
    refine p_ tt_ok Tryz.func35 8 fun w0 h0 F hgs => ?_
    refine y_ ?_
    refine A.eqNil rfl rfl rfl rfl rfl rfl rfl rfl fun b hb => ?_
    cases b
    case true => cases hb rfl
    refine y_ ?_
    refine A.lit0 rfl rfl rfl rfl rfl rfl rfl fun bl => ?_; refine y_ ?_; refine A.appendNewW rfl rfl rfl rfl rfl rfl rfl rfl rfl rfl rfl rfl rfl (by show (List.map AI32 _).length * 1 ≤ _; rw [List.length_map]; omega) (by show (List.map AI32 _).length * 1 * 4 ≤ _; rw [List.length_map]; omega) (fun x hx => by injection hx with hx; subst hx; rfl) (row_one _) fun z => ?_; refine y_ ?_
    refine A.freezeRowS 2 z (y' := rowA (x :: r)) rfl fz_ ?_
    exact r_
theorem put_none (st : List (List Int)) : putM st (-1) 0 0 = st := by
  unfold putM
  rw [if_neg (by unfold atM; simp)]
theorem move_p {V : List KV} {C : List Int} (s : ST) (kind ec ev : Int) (st : List (List Int)) (root : PR) (inn : List Int) (hst : Small st) (hr : okF (Loc V C) true false root) (hi : inn.length ≤ 1073741824) :
    Pure Tryz.prog gs0 45 [rnA s, AU8 kind, .ag [AI ec, AI32 ev], rowsA st, cellsR root, rowA inn] (encMV (moveM s kind ec ev st root inn)) := by
  obtain ⟨_, h1, h2⟩ := okF_sm hr
  have hn := norm_p root h1 h2
  have hc := copied_p (normR root) (norm_sm h1)
  have hp := hst.put_p (-1) 0 0
  rw [put_none] at hp
  have hcl := cloned_p inn (by omega)
  refine p_ tt_ok Tryz.func45 31 fun w0 h0 F hgs => ?_
  (refine b_ fun bx=>?_; refine b_ fun bx=>?_; refine b_ fun bx=>?_; refine y_ ?_)
  refine d_ 14 [0, 2, 5, 7, 8, 9, 10, 11, 13, 1, 3, 4, 6, 12] [(1, rowsA st), (3, cellsR (normR root)), (4, cellsR (normR root)), (6, rowA inn)] ?_
  refine WA.alloc rfl rfl rfl rfl rfl rfl rfl rfl fun b13 => ?_
  refine cw_ hp ?_
  refine cw_ hn ?_
  refine cw_ hc ?_
  refine cw_ hcl ?_
  refine WA.nil (l := [.box b13 _]) rfl ?_
  refine y_ ?_; refine A.retC (Λ' := []) rfl rfl rfl rfl rfl (List.nil_sublist _) ⟨?_, rfl⟩; exact .refl
theorem fitb8 {v : Int} (hv : i32 v) : (v == IntKind.i32.wrap (IntKind.u8.wrap v)) = (decide (0 ≤ v) && decide (v ≤ 255)) := by
  unfold i32 at hv
  have h8 : IntKind.u8.wrap v = v % 256 := by
    unfold IntKind.wrap; rfl
  rw [h8, w32_eq, Bool.eq_iff_iff]
  simp only [beq_iff_eq, Bool.and_eq_true, decide_eq_true_eq]
  omega
theorem fitb1 {v : Int} (hv : i32 v) : (bitsOf BinOp.or IntKind.i32 v 1 == 1) = (v == 0 || v == 1) := by
  unfold i32 at hv
  rw [Bool.eq_iff_iff]
  simp only [beq_iff_eq, Bool.or_eq_true]
  show IntKind.i32.wrap ((BitVec.ofInt 32 v ||| BitVec.ofInt 32 1).toNat : Int) = 1 ↔ _
  have h1 : (BitVec.ofInt 32 1).toNat = 1 := by decide
  have h2 : ((BitVec.ofInt 32 v).toNat : Int) = v % 4294967296 := by
    rw [BitVec.toNat_ofInt]
    have : (0 : Int) ≤ v % 4294967296 := by omega
    show (((v % ((2 ^ 32 : Nat) : Int)).toNat : Nat) : Int) = _
    rw [show ((2 ^ 32 : Nat) : Int) = 4294967296 by decide, Int.toNat_of_nonneg this]
  have h3 : (BitVec.ofInt 32 v ||| BitVec.ofInt 32 1).toNat = (BitVec.ofInt 32 v).toNat ||| 1 := by rw [BitVec.toNat_or, h1]
  have h4 := (BitVec.ofInt 32 v ||| BitVec.ofInt 32 1).isLt
  have h5 : (BitVec.ofInt 32 v).toNat ≤ (BitVec.ofInt 32 v).toNat ||| 1 := Nat.left_le_or
  rw [h3] at h4 ⊢
  constructor
  · intro h
    rw [w32_eq] at h
    have h6 : (BitVec.ofInt 32 v).toNat ||| 1 = 1 := by omega
    rw [h6] at h5
    omega
  · rintro (h | h) <;> subst h <;> decide
theorem fitsq_p (t v : Int) (hv : i32 v) : Pure Tryz.prog gs0 47 [AU8 t, AI32 v] (AB (fitsB t v)) := by
  refine p_ tt_ok Tryz.func47 20 fun w0 h0 F hgs => ?_
  refine y_ ?_
  refine k_ (fun hc=>?_) fun hc=>?_
  · refine y_ ?_; refine R_ ?_; refine Sb.eq ?_; simp at hc; subst hc; rw [fitb8 hv]; rfl
  · refine y_ ?_
    refine k_ (fun hd=>?_) fun hd=>?_
    · refine y_ ?_; refine R_ ?_; refine Sb.eq ?_; simp at hc hd; subst hd; rw [fitb1 hv]; rfl
    · refine y_ ?_; refine R_ ?_; refine Sb.eq ?_; simp at hc hd; simp [fitsB, hc, hd]
abbrev sumW (l : List (PR × List Nat)) : Nat := (l.map fun cp => wtR cp.1).sum
theorem sumW_app (a b : List (PR × List Nat)) : sumW (a ++ b) = sumW a + sumW b := by unfold sumW; rw [List.map_append, List.sum_append]
theorem compL_wt {path : List Nat} : ∀ {l : List PR} {j : Nat}, (∀ x, x ∈ l → ∀ pre, sumW (compR pre x) ≤ wtR x) → sumW (compL path j l) ≤ wtL l
  | [], _, _ => Nat.le_refl _
  | x :: r, j, h => by
    rw [compL, sumW_app, wtL]
    have h1 := h x (.head _) (path ++ [j])
    have h2 := compL_wt (path := path) (l := r) (j := j + 1) fun y hy => h y (.tail _ hy)
    omega
theorem comp_wt_n : ∀ (m : Nat) (p : PR) (path : List Nat), SizeOf.sizeOf p ≤ m → sumW (compR path p) ≤ wtR p
  | 0, p, _, h => by
    obtain ⟨k, c, v, i, to, e, gs, l⟩ := p
    simp only [PR.mk.sizeOf_spec] at h; omega
  | m + 1, p, path, hm => by
    rw [compR_eq, wtR_eq]
    split
    · match hl : p.l with
      | [] => rw [compS]; exact Nat.zero_le _
      | [x] =>
        have hx : x ∈ p.l := by rw [hl]; exact .head _
        have h1 := comp_wt_n m x path (by have := pr_lt hx; omega)
        rw [compS, wtS_1]; omega
      | x :: y :: r =>
        have hx : x ∈ p.l := by rw [hl]; exact .head _
        have h1 := comp_wt_n m x path (by have := pr_lt hx; omega)
        rw [compS, wtS_2]; omega
    · split
      · have h1 := compL_wt (path := path) (l := p.l) (j := 0) fun x hx pre => comp_wt_n m x pre (by have := pr_lt hx; omega)
        omega
      · rename_i k9 kb
        have hl : Leaf p := ⟨k9, kb⟩
        have := hl.wt
        show ([(p, path)].map fun cp => wtR cp.1).sum ≤ _
        rw [← this]; simp
theorem comp_wt (p : PR) (path : List Nat) : sumW (compR path p) ≤ wtR p := comp_wt_n _ p path (Nat.le_refl _)
structure InActs (k : KN) (s : ST) (x : ACT × List Nat) (c : PR) : Prop where
  cm : (c, x.2) ∈ compR [] s.root
  ac : x.1 ∈ doesM s c
  at' : atR s.root x.2 = some c
  leaf : Leaf c
  loc : Loc k.vars k.chans c
  ok : ActOk k.vars k.chans c x.1
theorem GoodK.st {k : KN} {s : ST} (h : GoodK k s) : StOk k.vars s.store := ⟨h.store, h.ws⟩
theorem comp_leaf {k : KN} {s : ST} (hg : GoodK k s) {c : PR} {path : List Nat} (hc : (c, path) ∈ compR [] s.root) : Leaf c ∧ Loc k.vars k.chans c := by
  have ha := comp_at hc
  obtain ⟨h1, h2, h3⟩ := at_kind ha
  exact ⟨⟨h1, by omega⟩, comp_loc hg.root (c, path) hc⟩
theorem acts_in {k : KN} {s : ST} (hg : GoodK k s) {x : ACT × List Nat} (hx : x ∈ actsM s) : ∃ c, InActs k s x c := by
  unfold actsM at hx
  rw [List.mem_flatMap] at hx
  obtain ⟨⟨c, path⟩, hc, hx⟩ := hx
  rw [List.mem_map] at hx
  obtain ⟨a, ha, rfl⟩ := hx
  obtain ⟨h1, h2⟩ := comp_leaf hg hc
  exact ⟨c, hc, ha, comp_at hc, h1, h2, does_ok hg.st hg.time h1 h2 a ha⟩
theorem flat_le {α β : Type} (f : α → List β) (w : α → Nat) : ∀ l : List α, (∀ a, a ∈ l → (f a).length ≤ w a) → (l.flatMap f).length ≤ (l.map w).sum
  | [], _ => Nat.le_refl _
  | a :: r, h => by
    rw [List.flatMap_cons, List.length_append, List.map_cons, List.sum_cons]
    have := h a (.head _)
    have := flat_le f w r fun b hb => h b (.tail _ hb)
    omega
theorem acts_len {k : KN} {s : ST} (hg : GoodK k s) : (actsM s).length ≤ wtR s.root := by
  have h1 := flat_le (fun cp : PR × List Nat => (doesM s cp.1).map fun a => (a, cp.2)) (fun cp => wtR cp.1) (compR [] s.root) fun cp hcp => by
    obtain ⟨h1, h2⟩ := comp_leaf hg (c := cp.1) (path := cp.2) hcp
    rw [List.length_map]
    exact does_wt h1 h2
  have h2 := comp_wt s.root []
  exact Nat.le_trans h1 h2
theorem comps_len {k : KN} {s : ST} (hg : GoodK k s) : (compR [] s.root).length ≤ wtR s.root := by
  have h1 := flat_le (fun cp : PR × List Nat => [cp]) (fun cp => wtR cp.1) (compR [] s.root) fun cp hcp => by
    obtain ⟨h1, h2⟩ := comp_leaf hg (c := cp.1) (path := cp.2) hcp
    have := h1.wt
    show 1 ≤ wtR cp.1
    omega
  have h2 := comp_wt s.root []
  rw [List.flatMap_singleton'] at h1
  exact Nat.le_trans h1 h2
structure RootOk (k : KN) (s : ST) (r : PR) : Prop where
  ok : okF (Loc k.vars k.chans) true false r
  wt : wtR r ≤ wtR s.root
  dw : dwR r ≤ dwR s.root
theorem root_one {k : KN} {s : ST} (hg : GoodK k s) {x : ACT × List Nat} {c : PR} (h : InActs k s x c) : RootOk k s (repR x.1.next s.root x.2) :=
  ⟨rep_ok loc_lax h.ok.ok h.at' hg.root, rep_wt h.ok.wt h.ok.dw h.at', rep_dw h.ok.wt h.ok.dw h.at'⟩
theorem path_ne {k : KN} {s : ST} {x y : ACT × List Nat} {c d : PR} (h : InActs k s x c) (h' : InActs k s y d) (hx : x.1.kind = 111) (hy : y.1.kind = 105) : x.2 ≠ y.2 := fun e => by
  have h1 := h.at'
  rw [e, h'.at'] at h1
  injection h1 with h1
  have h2 := (h.ok.out hx).1
  have h3 := (h'.ok.inp hy).1
  rw [h1] at h3
  omega
theorem at_two {k : KN} {s : ST} {x y : ACT × List Nat} {c d : PR} (h : InActs k s x c) (h' : InActs k s y d) (hne : x.2 ≠ y.2) : atR (repR x.1.next s.root x.2) y.2 = some d := rep_at h.at' h'.at' hne
theorem root_two {k : KN} {s : ST} (hg : GoodK k s) {x y : ACT × List Nat} {c d : PR} (h : InActs k s x c) (h' : InActs k s y d) (hne : x.2 ≠ y.2) : RootOk k s (repR y.1.next (repR x.1.next s.root x.2) y.2) := by
  have h1 := root_one hg h
  have h2 := at_two h h' hne
  refine ⟨rep_ok loc_lax h'.ok.ok h2 h1.ok, Nat.le_trans (rep_wt h'.ok.wt h'.ok.dw h2) h1.wt, Nat.le_trans (rep_dw h'.ok.wt h'.ok.dw h2) h1.dw⟩
theorem good_move {k : KN} {s : ST} (hg : GoodK k s) {st : List (List Int)} (hst : StOk k.vars st) {r : PR} (hr : RootOk k s r) {inn : List Int} (hi : ∀ x, x ∈ inn → i32 x) (hil : inn.length ≤ 1073741824) : GoodK k ⟨st, normR r, inn, s.time⟩ :=
  ⟨hg.may, hg.wf, hst.may, hst.ws, norm_ok loc_lax hr.ok, Nat.le_trans (norm_wt r) (Nat.le_trans hr.wt hg.wt), Nat.le_trans (norm_dw r) (Nat.le_trans hr.dw hg.dw), norm_nf r, hi, hil, hg.time⟩
abbrev NextK (k : KN) (s : ST) (m : MV) : Prop := GoodK k m.next ∧ wtR m.next.root ≤ wtR s.root
theorem next_move {k : KN} {s : ST} (hg : GoodK k s) {st : List (List Int)} (hst : StOk k.vars st) {r : PR} (hr : RootOk k s r) {inn : List Int} (hi : ∀ x, x ∈ inn → i32 x) (hil : inn.length ≤ 1073741824) (kind ec ev : Int) : NextK k s (moveM s kind ec ev st r inn) :=
  ⟨good_move hg hst hr hi hil, Nat.le_trans (norm_wt r) hr.wt⟩
theorem put_in {k : KN} {s : ST} (hg : GoodK k s) {x : ACT × List Nat} {c : PR} (h : InActs k s x c) (hk : x.1.kind = 105) {v : Int} (hv : i32 v) (hf : fitsB x.1.item v = true) : StOk k.vars (putM s.store x.1.v x.1.i v) :=
  hg.st.put hv fun y hy => by rw [(h.ok.inp hk).2.1 y hy]; exact hf
theorem head_in {s : ST} (hi : ∀ x, x ∈ s.inn → i32 x) (h : 0 < s.inn.length) : i32 (s.inn.headD 0) := by
  cases hs : s.inn with
  | nil => rw [hs] at h; simp at h
  | cons y r => exact hi y (by rw [hs]; exact .head _)
theorem comm_good {k : KN} {s : ST} (hg : GoodK k s) {x : ACT × List Nat} (hx : x ∈ actsM s) (h1 : x.1.kind = 111) {y : ACT × List Nat} (hy : y ∈ actsM s) : ∀ m, m ∈ commM s x y → NextK k s m := fun m hm => by
  obtain ⟨c, hc⟩ := acts_in hg hx
  obtain ⟨d, hd⟩ := acts_in hg hy
  unfold commM at hm
  split at hm
  · rename_i h
    rw [List.mem_singleton.1 hm]
    exact next_move hg (put_in hg hd h.1 (hc.ok.out h1).2 h.2.2) (root_two hg hc hd (path_ne hc hd h1 h.1)) hg.inn hg.innl 2 x.1.c x.1.value
  · cases hm
theorem step_good {k : KN} {s : ST} (hg : GoodK k s) {x : ACT × List Nat} (hx : x ∈ actsM s) : ∀ m, m ∈ stepA s (actsM s) x → NextK k s m := fun m hm => by
  obtain ⟨c, hc⟩ := acts_in hg hx
  unfold stepA at hm
  split at hm
  · rename_i h
    rw [List.mem_singleton.1 hm]
    exact next_move hg (hc.ok.tau h) (root_one hg hc) hg.inn hg.innl 1 0 0
  · split at hm
    · rename_i h
      rw [List.mem_singleton.1 hm]
      refine next_move hg (put_in hg hc h.1 (head_in hg.inn h.2.2) ?_) (root_one hg hc) (fun z hz => hg.inn z (List.mem_of_mem_tail hz)) (by have := hg.innl; rw [List.length_tail]; omega) 2 0 (s.inn.headD 0)
      rw [(hc.ok.inp h.1).2.2 h.2.1]; rfl
    · split at hm
      · rw [List.mem_singleton.1 hm]
        exact next_move hg hg.st (root_one hg hc) hg.inn hg.innl 2 1 x.1.value
      · split at hm
        · rename_i h
          rw [List.mem_flatMap] at hm
          obtain ⟨y, hy, hm⟩ := hm
          exact comm_good hg hx h hy m hm
        · cases hm
theorem tick_good {k : KN} {s : ST} (hg : GoodK k s) : NextK k s (tickM s) := ⟨⟨hg.may, hg.wf, hg.store, hg.ws, hg.root, hg.wt, hg.dw, hg.nf, hg.inn, hg.innl, w32_in _⟩, Nat.le_refl _⟩
theorem moves_good {k : KN} {s : ST} (hg : GoodK k s) : ∀ m, m ∈ movesM s → NextK k s m := fun m hm => by
  unfold movesM at hm
  rw [List.mem_append] at hm
  rcases hm with hm | hm
  · rw [List.mem_flatMap] at hm
    obtain ⟨x, hx, hm⟩ := hm
    exact step_good hg hx m hm
  · rw [List.mem_singleton.1 hm]; exact tick_good hg
theorem flat_bound {α β : Type} (f : α → List β) (n : Nat) : ∀ l : List α, (∀ a, a ∈ l → (f a).length ≤ n) → (l.flatMap f).length ≤ n * l.length
  | [], _ => Nat.le_refl _
  | a :: r, h => by
    rw [List.flatMap_cons, List.length_append, List.length_cons, Nat.mul_succ]
    have := h a (.head _)
    have := flat_bound f n r fun b hb => h b (.tail _ hb)
    omega
theorem comm_len (s : ST) (a b : ACT × List Nat) : (commM s a b).length ≤ 1 := by unfold commM; split <;> simp
theorem step_len (s : ST) (l : List (ACT × List Nat)) (a : ACT × List Nat) : (stepA s l a).length ≤ 1 + l.length := by
  unfold stepA
  split
  · simp
  · split
    · simp
    · split
      · simp
      · split
        · have := flat_len (commM s a) (comm_len s a) l
          omega
        · simp
def startS (k : KN) (inn : List Int) : ST := ⟨storeS k.vars, normR k.root, inn, 0⟩
theorem may_sounds {k : KN} (h : mayK k = true) : soundsB k.vars = true := KOk.sounds (C := k.chans) (may_kok h)
theorem storeS_eq {k : KN} (h : mayK k = true) : storeS k.vars = storeM k.vars := by unfold storeS; rw [if_pos (may_sounds h)]
theorem store_ok {V : List KV} (h : soundsB V = true) : StOk V (storeM V) := ⟨may_store h, fun r hr x hx => by
  unfold storeM at hr
  rw [List.mem_map] at hr
  obtain ⟨v, _, rfl⟩ := hr
  rw [List.eq_of_mem_replicate hx]; unfold i32; omega⟩
theorem start_root {k : KN} (h : mayK k = true) (hw : WfN k) (hs : smR k.root) : okF (Loc k.vars k.chans) true false k.root := by
  obtain ⟨h1, h2, h3⟩ := may_fits h
  exact ok_kernel h1 (by omega) hw.root hs
theorem start_good {k : KN} (h : mayK k = true) (hw : WfN k) (hs : smR k.root) {inn : List Int} (hi : ∀ x, x ∈ inn → i32 x) (hl : inn.length ≤ 1073741824) : GoodK k (startS k inn) := by
  have hf := may_fits h
  obtain ⟨f1, f2, f3⟩ := hf
  have hst := store_ok (may_sounds h)
  have hwt := wt_le k.root
  have hdw := dw_le k.root
  have hm : (htR k.root + 2) * szR k.root ≤ 34 * 2048 := Nat.mul_le_mul (by omega) (by omega)
  have e := storeS_eq h
  refine ⟨h, hw, ?_, ?_, norm_ok loc_lax (start_root h hw hs), Nat.le_trans (norm_wt _) (by omega), Nat.le_trans (norm_dw _) (by omega), norm_nf _, hi, hl, by show i32 0; unfold i32; omega⟩
  · show mayB k.vars (storeS k.vars) = true; rw [e]; exact hst.may
  · show wfS (storeS k.vars); rw [e]; exact hst.ws
structure StepK (s : ST) (m : MV) : Prop where
  kind : (m.kind = 1 ∧ m.ec = 0 ∧ m.ev = 0) ∨ m.kind = 2
  time : m.next.time = s.time
inductive HostK (s : ST) (m : MV) : Prop
  | quiet (hk : m.kind ≠ 2) (hi : m.next.inn = s.inn)
  | heard (hk : m.kind = 2) (hc : m.ec = 0) (hi : s.inn = m.ev :: m.next.inn) (v i : Int) (hs : m.next.store = putM s.store v i m.ev)
  | told (hk : m.kind = 2) (hc : m.ec = 1) (hi : m.next.inn = s.inn) (hs : m.next.store = s.store)
  | inside (hk : m.kind = 2) (h0 : m.ec ≠ 0) (h1 : m.ec ≠ 1) (hi : m.next.inn = s.inn) (v i : Int) (hs : m.next.store = putM s.store v i m.ev)
structure WD where
  store : List (List Int)
  inn : List Int
  out : List Int
  steps : Nat
abbrev WD.st (w : WD) : ST := ⟨w.store, skipR, w.inn, 0⟩
def plainI (k : Int) : Bool := !(k == 10 || (k == 11 || (k == 14 || (k == 15 || k == 8))))
mutual
def plainR : PR → Bool
  | ⟨k, _, _, _, _, _, gs, l⟩ => plainI k && plainRl l && plainGl gs
def plainRl : List PR → Bool
  | [] => true
  | p :: r => plainR p && plainRl r
def plainG : GD → Bool
  | ⟨_, _, _, _, _, _, b⟩ => plainRl b
def plainGl : List GD → Bool
  | [] => true
  | g :: r => plainG g && plainGl r
end
structure FR where
  c : Int
  v : Int
  i : Int
  to : List PL
  e : List KE
  gs : List GD
  rest : List PR
structure Sgl (x c : PR) (N : PR → PR) : Prop where
  no : doneR x = false
  comp : compR [] x = [(c, [])]
  rep : ∀ q, normR (repR q x []) = N q
abbrev toldO (m : MV) : List Int := if m.kind = 2 ∧ m.ec = 1 then [m.ev] else []
inductive Goes : ST → Nat → List Int → ST → Prop
  | zero (s : ST) : Goes s 0 [] s
  | step {s s' : ST} {m : MV} {n : Nat} {o : List Int} (hm : movesM s = [m, tickM s]) (hk : m.kind ≠ 3) (h : Goes m.next n o s') : Goes s (n + 1) (toldO m ++ o) s'
section
variable {w : WD} {p : PR} {fs : List FR}
end
structure PlO (V : List KV) (n : Nat) (p : PR) : Prop where
  pl : plainR p = true
  ok : ∃ h, okR V n h p = true
section
variable {V : List KV} {n : Nat} {p : PR}
end
section
variable {k : KN} {w : WD} {p q : PR} {fs : List FR}
end
abbrev movsA (l : List MV) : List AV := l.map encMV
abbrev partM (s : ST) (i : Nat) : List MV := ((actsM s).take i).flatMap (stepA s (actsM s))
theorem part_succ {s : ST} {i : Nat} {x : ACT × List Nat} (hx : (actsM s)[i]? = some x) : partM s (i + 1) = partM s i ++ stepA s (actsM s) x := by
  unfold partM
  rw [List.take_add_one, hx, List.flatMap_append]; simp
theorem part_len {s : ST} (h : (actsM s).length ≤ 8000) (i : Nat) : (partM s i).length ≤ 64008000 := by
  have h1 := flat_bound (stepA s (actsM s)) 8001 ((actsM s).take i) fun a _ => by have := step_len s (actsM s) a; omega
  rw [List.length_take] at h1
  unfold partM
  omega
theorem in_no {n : Nat} (h : ¬ 0 < n) : (bif true then decide ((0 : Int) < (n : Int)) else false) = false := by
  cases n with
  | zero => rfl
  | succ n => omega
theorem in_eq {a : Int} (h : true = (a == 0)) : a = 0 := by
  have h := h.symm
  rw [beq_iff_eq] at h; exact h
theorem head_at {l : List Int} (h : 0 < l.length) : (l.map AI32)[(0 : Int).toNat]? = some (AI32 (l.headD 0)) := by
  cases l with
  | nil => simp at h
  | cons x r => rfl
theorem tail_at (l : List Int) : ((l.map AI32).drop (1 : Int).toNat).take (((l.map AI32).length : Int).toNat - (1 : Int).toNat) = l.tail.map AI32 := by
  cases l with
  | nil => rfl
  | cons x r => simp [List.take_of_length_le]
abbrev innM (s : ST) (i : Nat) (x : ACT × List Nat) (j : Nat) : List MV := partM s i ++ ((actsM s).take j).flatMap (commM s x)
theorem innM_0 {s : ST} {i : Nat} {x : ACT × List Nat} : innM s i x 0 = partM s i := by unfold innM; rw [List.take_zero, List.flatMap_nil, List.append_nil]
theorem innM_succ {s : ST} (i : Nat) (x : ACT × List Nat) {j : Nat} {y : ACT × List Nat} (hy : (actsM s)[j]? = some y) : innM s i x (j + 1) = innM s i x j ++ commM s x y := by
  unfold innM
  rw [List.take_add_one, hy, List.flatMap_append, List.append_assoc]; simp
theorem innM_all {s : ST} {i : Nat} {x : ACT × List Nat} : innM s i x (actsM s).length = partM s i ++ (actsM s).flatMap (commM s x) := by unfold innM; rw [List.take_length]
theorem innM_len {s : ST} (h : (actsM s).length ≤ 8000) (i : Nat) (x : ACT × List Nat) (j : Nat) : (innM s i x j).length ≤ 64016000 := by
  have h1 := part_len h i
  have h2 := flat_len (commM s x) (comm_len s x) ((actsM s).take j)
  rw [List.length_take] at h2
  unfold innM
  rw [List.length_append]
  omega
theorem and_self_eq (a : Int) : (bif true then a == a else false) = true := by simp
theorem and_ne_eq {a b : Int} (h : a ≠ b) : (bif true then a == b else false) = false := by simpa using h
theorem movs_snoc (l : List MV) (m : MV) (z : Option Value) : AV.sl 14 (movsA l ++ [encMV m]) z = AV.sl 14 (movsA (l ++ [m])) z := by unfold movsA; rw [List.map_append]; rfl
theorem moves_p (k : KN) (s : ST) (hg : GoodK k s) (hw : wtR s.root ≤ 8000) : Pure Tryz.prog gs0 19 [encN k, encST s] (.sl 14 (movsA (movesM s)) none) := by
  have hmay := smay_p k s hg
  have hacts := acts_p k s hg (by have := comps_len hg; omega)
  have hal : (actsM s).length ≤ 8000 := Nat.le_trans (acts_len hg) hw
  refine p_ tt_ok Tryz.func19 194 fun w0 h0 F hgs => ?_
  refine y_ ?_
  refine A.b rfl fun b2 => ?_
  refine A.b rfl fun b3 => ?_
  refine y_ ?_
  refine c_ hmay ?_
  refine A.b rfl fun b19 => ?_
  refine A.freezeS 19 b19 (y' := rnA s) rfl rfl rfl .ptr ?_
  refine y_ ?_
  refine A.e rfl hacts .refl (List.Perm.refl _) fun l hl => ?_
  refine y_ ?_
  have hll : l.length = (actsM s).length := by rw [← hl, List.length_map]
  refine A.valE 23 rfl (x' := AI ((actsM s).length : Nat)) (ai_eq (by rw [List.length_map, hll])) ?_
  refine A.nilTail 6 ty59.size rfl ?_
  refine A.keep [3, 5, 6, 7, 22, 23, 24] rfl ?_
  refine l_ (Λ' := [.tail ty59.size (.slice none 0 0), .box b3 (encST s)]) ?_
  refine A.loopP (ι := Nat × Value) (fun q => (⟨[(3, ptrA b3), (5, rnA s), (6, .sl 14 (movsA (partM s q.1)) (some q.2)), (7, .sl 17 (actsI l) none), (22, .sl 17 (actsI l) none), (23, AI ((actsM s).length : Nat)), (24, AI (q.1 : Nat))], []⟩, [.tail ty59.size q.2, .box b3 (encST s)])) (fun q => q.1 ≤ (actsM s).length) (fun q => (actsM s).length - q.1) (0, .slice none 0 0) (Nat.zero_le _) rfl fun q hi ih => ?_
  obtain ⟨i, z⟩ := q
  simp only at hi
  refine y_ ?_
  refine k_ (fun hc=>?_) fun hc=>?_
  · have hci : i < (actsM s).length := by simpa using hc
    clear hc
    refine Exists.elim (at_exN (l := l) (i := i) (by omega)) fun xb hxb => ?_
    have hx : (actsM s)[i]? = some xb.1 := by rw [← hl, List.getElem?_map, hxb]; rfl
    have hpart := part_succ hx
    have hplen := part_len hal i
    refine Exists.elim (acts_in hg (List.mem_of_getElem? hx)) fun c hin => ?_
    refine y_ ?_
    refine i_ rfl (map_at hxb) rfl ?_
    refine A.b rfl fun b9 => ?_
    refine y_ ?_
    refine k_ (fun hc=>?_) fun hc=>?_
    · have h116 : xb.1.1.kind = 116 := by have h : (xb.1.1.kind == 116) = true := hc; simpa using h
      clear hc
      have hst : stepA s (actsM s) xb.1 = [moveM s 1 0 0 xb.1.1.store (repR xb.1.1.next s.root xb.1.2) s.inn] := by unfold stepA; rw [if_pos h116]
      have hr := root_one hg hin
      have hmv := move_p s 1 0 0 xb.1.1.store _ s.inn (hin.ok.tau h116).small hr.ok hg.innl
      refine d_ 14 [0, 1, 2, 3, 4, 5, 6, 7, 8, 10, 11, 9, 12, 13] [(9, cellsR (repR xb.1.1.next s.root xb.1.2)), (12, encMV (moveM s 1 0 0 xb.1.1.store (repR xb.1.1.next s.root xb.1.2) s.inn))] ?_
      refine cw_ (put_closure xb.1.1 xb.1.2 xb.2 hg.root hin.at') ?_
      refine cw_ hmv ?_
      refine WA.lit rfl rfl rfl rfl rfl rfl rfl fun bw => ?_
      refine WA.nil (l := [_]) rfl ?_
      refine A.freezeRowS 45 (.slice (some ⟨bw, 0, none⟩) 1 1) (y' := .sl 14 [encMV (moveM s 1 0 0 xb.1.1.store (repR xb.1.1.next s.root xb.1.2) s.inn)] none) rfl fz_ ?_
      refine A.append rfl rfl rfl rfl rfl rfl rfl rfl rfl rfl rfl rfl rfl rfl (by show ((movsA (partM s i)).length + 1) * 14 ≤ _; rw [List.length_map]; omega) fun z' => ?_
      refine y_ ?_
      refine A.valE 6 rfl (x' := .sl 14 (movsA (partM s (i + 1))) (some z')) (by rw [hpart, hst]; show AV.sl 14 (movsA (partM s i) ++ [encMV (moveM s 1 0 0 xb.1.1.store (repR xb.1.1.next s.root xb.1.2) s.inn)]) _ = _; exact movs_snoc _ _ _) ?_
      refine A.valE 24 rfl (x' := AI ((i + 1 : Nat) : Int)) (inc_eq i (by omega)) ?_
      refine l_ (Λ' := [.tail ty59.size z', .box b3 (encST s)]) ?_
      exact A.sub su_ (ih (i + 1, z') (by show i + 1 ≤ _; omega) (by show _ - (i + 1) < _ - i; omega))
    have n116 : xb.1.1.kind ≠ 116 := by have h : (xb.1.1.kind == 116) = false := hc; simpa using h
    clear hc
    refine y_ ?_
    by_cases h105 : xb.1.1.kind = 105
    · refine e_ 51 rfl (x' := AB true) (ab_eq (by rw [h105]; rfl)) ?_
      by_cases h0 : xb.1.1.c = 0 ∧ 0 < s.inn.length
      · have hst : stepA s (actsM s) xb.1 = [moveM s 2 0 (s.inn.headD 0) (putM s.store xb.1.1.v xb.1.1.i (s.inn.headD 0)) (repR xb.1.1.next s.root xb.1.2) s.inn.tail] := by unfold stepA; rw [if_neg n116, if_pos ⟨h105, h0⟩]
        refine e_ 56 rfl (x' := AB true) (ab_eq (by rw [h0.1]; rfl)) ?_
        refine A.valE 47 rfl (x' := AB true) (ab_eq (by rw [List.length_map]; simpa using h0.2)) ?_
        have hat0 := head_at h0.2
        have htl := tail_at s.inn
        have hr := root_one hg hin
        have hpi : StOk k.vars (putM s.store xb.1.1.v xb.1.1.i (s.inn.headD 0)) := put_in hg hin h105 (head_in hg.inn h0.2) (by rw [(hin.ok.inp h105).2.2 h0.1]; rfl)
        have hmv := move_p s 2 0 (s.inn.headD 0) _ _ s.inn.tail hpi.small hr.ok (by have := hg.innl; rw [List.length_tail]; omega)
        have hpp := hg.small.put_p xb.1.1.v xb.1.1.i (s.inn.headD 0)
        have hlp := h0.2
        refine y_ ?_
        refine d_ 28 [0, 1, 2, 3, 4, 5, 6, 7, 8, 9, 10, 11, 12, 13, 14, 15, 16, 18, 19, 20, 21, 23, 24, 25, 17, 22, 26, 27] [(17, rowsA (putM s.store xb.1.1.v xb.1.1.i (s.inn.headD 0))), (22, cellsR (repR xb.1.1.next s.root xb.1.2)), (26, encMV (moveM s 2 0 (s.inn.headD 0) (putM s.store xb.1.1.v xb.1.1.i (s.inn.headD 0)) (repR xb.1.1.next s.root xb.1.2) s.inn.tail))] ?_
        refine iw_ rfl hat0 rfl ?_
        refine iw_ rfl hat0 rfl ?_
        refine WA.slice (ys := s.inn.tail.map AI32) rfl rfl rfl rfl rfl rfl rfl rfl rfl rfl (by decide) (by rw [List.length_map]; omega) (Int.le_refl _) htl rfl ?_
        refine cw_ hpp ?_
        refine cw_ (put_closure xb.1.1 xb.1.2 xb.2 hg.root hin.at') ?_
        refine cw_ hmv ?_
        refine WA.lit rfl rfl rfl rfl rfl rfl rfl fun bw => ?_
        refine WA.nil (l := [_]) rfl ?_
        refine A.freezeRowS 89 (.slice (some ⟨bw, 0, none⟩) 1 1) (y' := .sl 14 [encMV (moveM s 2 0 (s.inn.headD 0) (putM s.store xb.1.1.v xb.1.1.i (s.inn.headD 0)) (repR xb.1.1.next s.root xb.1.2) s.inn.tail)] none) rfl fz_ ?_
        refine A.append rfl rfl rfl rfl rfl rfl rfl rfl rfl rfl rfl rfl rfl rfl (by show ((movsA (partM s i)).length + 1) * 14 ≤ _; rw [List.length_map]; omega) fun z' => ?_
        refine y_ ?_
        refine A.valE 6 rfl (x' := .sl 14 (movsA (partM s (i + 1))) (some z')) (by rw [hpart, hst]; show AV.sl 14 (movsA (partM s i) ++ [encMV (moveM s 2 0 (s.inn.headD 0) (putM s.store xb.1.1.v xb.1.1.i (s.inn.headD 0)) (repR xb.1.1.next s.root xb.1.2) s.inn.tail)]) _ = _; exact movs_snoc _ _ _) ?_
        refine A.valE 24 rfl (x' := AI ((i + 1 : Nat) : Int)) (inc_eq i (by omega)) ?_
        refine l_ (Λ' := [.tail ty59.size z', .box b3 (encST s)]) ?_
        exact A.sub su_ (ih (i + 1, z') (by show i + 1 ≤ _; omega) (by show _ - (i + 1) < _ - i; omega))
      · have hst : stepA s (actsM s) xb.1 = [] := by unfold stepA; rw [if_neg n116, if_neg (fun h => h0 h.2), if_neg (by omega), if_neg (by omega)]
        refine Exists.elim (show ∃ b, b = (xb.1.1.c == 0) from ⟨_, rfl⟩) fun b hb => ?_
        refine A.valE 56 rfl (x' := AB b) (ab_eq (by rw [hb]; rfl)) ?_
        cases b
        · refine y_ ?_
          refine e_ 95 rfl (x' := AB false) (ab_eq (by rw [h105]; rfl)) ?_
          refine e_ 117 rfl (x' := AB false) (ab_eq (by rw [h105]; rfl)) ?_
          refine A.valE 6 rfl (x' := .sl 14 (movsA (partM s (i + 1))) (some z)) (by rw [hpart, hst, List.append_nil]) ?_
          refine A.valE 24 rfl (x' := AI ((i + 1 : Nat) : Int)) (inc_eq i (by omega)) ?_
          refine l_ (Λ' := [.tail ty59.size z, .box b3 (encST s)]) ?_
          exact A.sub su_ (ih (i + 1, z) (by show i + 1 ≤ _; omega) (by show _ - (i + 1) < _ - i; omega))
        · refine y_ ?_
          refine e_ 47 rfl (x' := AB false) (ab_eq (by rw [List.length_map]; exact in_no fun h => h0 ⟨in_eq hb, h⟩)) ?_
          refine e_ 95 rfl (x' := AB false) (ab_eq (by rw [h105]; rfl)) ?_
          refine e_ 117 rfl (x' := AB false) (ab_eq (by rw [h105]; rfl)) ?_
          refine A.valE 6 rfl (x' := .sl 14 (movsA (partM s (i + 1))) (some z)) (by rw [hpart, hst, List.append_nil]) ?_
          refine A.valE 24 rfl (x' := AI ((i + 1 : Nat) : Int)) (inc_eq i (by omega)) ?_
          refine l_ (Λ' := [.tail ty59.size z, .box b3 (encST s)]) ?_
          exact A.sub su_ (ih (i + 1, z) (by show i + 1 ≤ _; omega) (by show _ - (i + 1) < _ - i; omega))
    · refine e_ 51 rfl (x' := AB false) (ab_eq (beq_eq_false_iff_ne.2 h105)) ?_
      by_cases h111 : xb.1.1.kind = 111
      · refine e_ 95 rfl (x' := AB true) (ab_eq (by rw [h111]; rfl)) ?_
        by_cases h1 : xb.1.1.c = 1
        · have hst : stepA s (actsM s) xb.1 = [moveM s 2 1 xb.1.1.value s.store (repR xb.1.1.next s.root xb.1.2) s.inn] := by unfold stepA; rw [if_neg n116, if_neg (fun h => h105 h.1), if_pos ⟨h111, h1⟩]
          refine A.valE 91 rfl (x' := AB true) (ab_eq (by rw [h1]; rfl)) ?_
          have hr := root_one hg hin
          have hmv := move_p s 2 1 xb.1.1.value _ _ s.inn hg.small hr.ok hg.innl
          refine y_ ?_
          refine d_ 16 [0, 1, 2, 3, 4, 5, 6, 7, 8, 9, 10, 12, 13, 11, 14, 15] [(11, cellsR (repR xb.1.1.next s.root xb.1.2)), (14, encMV (moveM s 2 1 xb.1.1.value s.store (repR xb.1.1.next s.root xb.1.2) s.inn))] ?_
          refine cw_ (put_closure xb.1.1 xb.1.2 xb.2 hg.root hin.at') ?_
          refine cw_ hmv ?_
          refine WA.lit rfl rfl rfl rfl rfl rfl rfl fun bw => ?_
          refine WA.nil (l := [_]) rfl ?_
          refine A.freezeRowS 115 (.slice (some ⟨bw, 0, none⟩) 1 1) (y' := .sl 14 [encMV (moveM s 2 1 xb.1.1.value s.store (repR xb.1.1.next s.root xb.1.2) s.inn)] none) rfl fz_ ?_
          refine A.append rfl rfl rfl rfl rfl rfl rfl rfl rfl rfl rfl rfl rfl rfl (by show ((movsA (partM s i)).length + 1) * 14 ≤ _; rw [List.length_map]; omega) fun z' => ?_
          refine y_ ?_
          refine A.valE 6 rfl (x' := .sl 14 (movsA (partM s (i + 1))) (some z')) (by rw [hpart, hst]; show AV.sl 14 (movsA (partM s i) ++ [encMV (moveM s 2 1 xb.1.1.value s.store (repR xb.1.1.next s.root xb.1.2) s.inn)]) _ = _; exact movs_snoc _ _ _) ?_
          refine A.valE 24 rfl (x' := AI ((i + 1 : Nat) : Int)) (inc_eq i (by omega)) ?_
          refine l_ (Λ' := [.tail ty59.size z', .box b3 (encST s)]) ?_
          exact A.sub su_ (ih (i + 1, z') (by show i + 1 ≤ _; omega) (by show _ - (i + 1) < _ - i; omega))
        · have hst : stepA s (actsM s) xb.1 = (actsM s).flatMap (commM s xb.1) := by unfold stepA; rw [if_neg n116, if_neg (fun h => h105 h.1), if_neg (fun h => h1 h.2), if_pos h111]
          refine e_ 91 rfl (x' := AB false) (ab_eq (beq_eq_false_iff_ne.2 h1)) ?_
          refine e_ 117 rfl (x' := AB true) (ab_eq (by rw [h111]; rfl)) ?_
          refine A.valE 122 rfl (x' := AI ((actsM s).length : Nat)) (ai_eq (by rw [List.length_map, hll])) ?_
          refine A.valE 6 rfl (x' := .sl 14 (movsA (innM s i xb.1 0)) (some z)) (by rw [innM_0]) ?_
          refine A.keep [3, 5, 6, 7, 9, 22, 23, 24, 121, 122, 123] rfl ?_
          refine A.perm (.swap _ _ _) ?_
          refine l_ (Λ' := [.tail ty59.size z, .box b9 (actF xb.1 xb.2), .box b3 (encST s)]) ?_
          refine A.loopP (ι := Nat × Value) (fun q => (⟨[(3, ptrA b3), (5, rnA s), (6, .sl 14 (movsA (innM s i xb.1 q.1)) (some q.2)), (7, .sl 17 (actsI l) none), (9, ptrA b9), (22, .sl 17 (actsI l) none), (23, AI ((actsM s).length : Nat)), (24, AI (i : Nat)), (121, .sl 17 (actsI l) none), (122, AI ((actsM s).length : Nat)), (123, AI (q.1 : Nat))], []⟩, [.tail ty59.size q.2, .box b9 (actF xb.1 xb.2), .box b3 (encST s)])) (fun q => q.1 ≤ (actsM s).length) (fun q => (actsM s).length - q.1) (0, z) (Nat.zero_le _) rfl fun q hj ih2 => ?_
          obtain ⟨j, z2⟩ := q
          simp only at hj
          have hilen := innM_len hal i xb.1 j
          refine y_ ?_
          refine k_ (fun hc=>?_) fun hc=>?_
          · have hcj : j < (actsM s).length := by simpa using hc
            clear hc
            refine Exists.elim (at_exN (l := l) (i := j) (by omega)) fun yb hyb => ?_
            have hy : (actsM s)[j]? = some yb.1 := by rw [← hl, List.getElem?_map, hyb]; rfl
            have hin2 := innM_succ i xb.1 hy
            refine Exists.elim (acts_in hg (List.mem_of_getElem? hy)) fun d hind => ?_
            refine y_ ?_
            refine i_ rfl (map_at hyb) rfl ?_
            refine A.b rfl fun b11 => ?_
            refine y_ ?_
            by_cases hy105 : yb.1.1.kind = 105
            · refine e_ 130 rfl (x' := AB true) (ab_eq (by rw [hy105]; rfl)) ?_
              by_cases hcc : yb.1.1.c = xb.1.1.c
              · refine e_ 137 rfl (x' := AB true) (ab_eq (by rw [hcc]; exact and_self_eq _)) ?_
                refine n_ (fitsq_p yb.1.1.item xb.1.1.value (hin.ok.out h111).2) ?_
                by_cases hf : fitsB yb.1.1.item xb.1.1.value = true
                · refine A.valE 142 rfl (x' := AB true) (ab_eq hf) ?_
                  have hcm : commM s xb.1 yb.1 = [moveM s 2 xb.1.1.c xb.1.1.value (putM s.store yb.1.1.v yb.1.1.i xb.1.1.value) (repR yb.1.1.next (repR xb.1.1.next s.root xb.1.2) yb.1.2) s.inn] := by unfold commM; rw [if_pos ⟨hy105, hcc, hf⟩]
                  have hne := path_ne hin hind h111 hy105
                  have hr1 := root_one hg hin
                  have hr2 := root_two hg hin hind hne
                  have hpi := put_in hg hind hy105 (hin.ok.out h111).2 hf
                  have hmv := move_p s 2 xb.1.1.c xb.1.1.value _ _ s.inn hpi.small hr2.ok hg.innl
                  have hpp := hg.small.put_p yb.1.1.v yb.1.1.i xb.1.1.value
                  have hc1 := put_closure xb.1.1 xb.1.2 xb.2 hg.root hin.at'
                  have hc2 := put_closure yb.1.1 yb.1.2 yb.2 hr1.ok (at_two hin hind hne)
                  refine y_ ?_
                  refine d_ 28 [0, 1, 2, 3, 4, 5, 6, 7, 8, 9, 10, 11, 12, 13, 14, 16, 17, 18, 19, 20, 21, 24, 25, 15, 22, 23, 26, 27] [(15, rowsA (putM s.store yb.1.1.v yb.1.1.i xb.1.1.value)), (22, cellsR (repR xb.1.1.next s.root xb.1.2)), (23, cellsR (repR yb.1.1.next (repR xb.1.1.next s.root xb.1.2) yb.1.2)), (26, encMV (moveM s 2 xb.1.1.c xb.1.1.value (putM s.store yb.1.1.v yb.1.1.i xb.1.1.value) (repR yb.1.1.next (repR xb.1.1.next s.root xb.1.2) yb.1.2) s.inn))] ?_
                  refine cw_ hpp ?_
                  refine cw_ hc1 ?_
                  refine cw_ hc2 ?_
                  refine cw_ hmv ?_
                  refine WA.lit rfl rfl rfl rfl rfl rfl rfl fun bw => ?_
                  refine WA.nil (l := [_]) rfl ?_
                  refine A.freezeRowS 171 (.slice (some ⟨bw, 0, none⟩) 1 1) (y' := .sl 14 [encMV (moveM s 2 xb.1.1.c xb.1.1.value (putM s.store yb.1.1.v yb.1.1.i xb.1.1.value) (repR yb.1.1.next (repR xb.1.1.next s.root xb.1.2) yb.1.2) s.inn)] none) rfl fz_ ?_
                  refine A.append rfl rfl rfl rfl rfl rfl rfl rfl rfl rfl rfl rfl rfl rfl (by show ((movsA (innM s i xb.1 j)).length + 1) * 14 ≤ _; rw [List.length_map]; omega) fun z' => ?_
                  refine y_ ?_
                  refine A.valE 6 rfl (x' := .sl 14 (movsA (innM s i xb.1 (j + 1))) (some z')) (by rw [hin2, hcm]; show AV.sl 14 (movsA (innM s i xb.1 j) ++ [encMV (moveM s 2 xb.1.1.c xb.1.1.value (putM s.store yb.1.1.v yb.1.1.i xb.1.1.value) (repR yb.1.1.next (repR xb.1.1.next s.root xb.1.2) yb.1.2) s.inn)]) _ = _; exact movs_snoc _ _ _) ?_
                  refine A.valE 123 rfl (x' := AI ((j + 1 : Nat) : Int)) (inc_eq j (by omega)) ?_
                  refine l_ (Λ' := [.tail ty59.size z', .box b9 (actF xb.1 xb.2), .box b3 (encST s)]) ?_
                  exact A.sub su_ (ih2 (j + 1, z') (by show j + 1 ≤ _; omega) (by show _ - (j + 1) < _ - j; omega))
                · refine A.valE 142 rfl (x' := AB false) (ab_eq (by simpa using hf)) ?_
                  have hcm : commM s xb.1 yb.1 = [] := by unfold commM; rw [if_neg (fun h => hf h.2.2)]
                  refine y_ ?_
                  refine A.valE 6 rfl (x' := .sl 14 (movsA (innM s i xb.1 (j + 1))) (some z2)) (by rw [hin2, hcm, List.append_nil]) ?_
                  refine A.valE 123 rfl (x' := AI ((j + 1 : Nat) : Int)) (inc_eq j (by omega)) ?_
                  refine l_ (Λ' := [.tail ty59.size z2, .box b9 (actF xb.1 xb.2), .box b3 (encST s)]) ?_
                  exact A.sub su_ (ih2 (j + 1, z2) (by show j + 1 ≤ _; omega) (by show _ - (j + 1) < _ - j; omega))
              · refine A.valE 137 rfl (x' := AB false) (ab_eq (and_ne_eq hcc)) ?_
                have hcm : commM s xb.1 yb.1 = [] := by unfold commM; rw [if_neg (fun h => hcc h.2.1)]
                refine y_ ?_
                refine A.valE 6 rfl (x' := .sl 14 (movsA (innM s i xb.1 (j + 1))) (some z2)) (by rw [hin2, hcm, List.append_nil]) ?_
                refine A.valE 123 rfl (x' := AI ((j + 1 : Nat) : Int)) (inc_eq j (by omega)) ?_
                refine l_ (Λ' := [.tail ty59.size z2, .box b9 (actF xb.1 xb.2), .box b3 (encST s)]) ?_
                exact A.sub su_ (ih2 (j + 1, z2) (by show j + 1 ≤ _; omega) (by show _ - (j + 1) < _ - j; omega))
            · refine A.valE 130 rfl (x' := AB false) (ab_eq (beq_eq_false_iff_ne.2 hy105)) ?_
              have hcm : commM s xb.1 yb.1 = [] := by unfold commM; rw [if_neg (fun h => hy105 h.1)]
              refine y_ ?_
              refine A.valE 6 rfl (x' := .sl 14 (movsA (innM s i xb.1 (j + 1))) (some z2)) (by rw [hin2, hcm, List.append_nil]) ?_
              refine A.valE 123 rfl (x' := AI ((j + 1 : Nat) : Int)) (inc_eq j (by omega)) ?_
              refine l_ (Λ' := [.tail ty59.size z2, .box b9 (actF xb.1 xb.2), .box b3 (encST s)]) ?_
              exact A.sub su_ (ih2 (j + 1, z2) (by show j + 1 ≤ _; omega) (by show _ - (j + 1) < _ - j; omega))
          have hcj : ¬ j < (actsM s).length := by simpa using hc
          clear hc ih2
          have hjl : j = (actsM s).length := by omega
          refine y_ ?_
          refine A.valE 6 rfl (x' := .sl 14 (movsA (partM s (i + 1))) (some z2)) (by rw [hpart, hst, hjl, innM_all]) ?_
          refine A.valE 24 rfl (x' := AI ((i + 1 : Nat) : Int)) (inc_eq i (by omega)) ?_
          refine l_ (Λ' := [.tail ty59.size z2, .box b3 (encST s)]) ?_
          exact A.sub su_ (ih (i + 1, z2) (by show i + 1 ≤ _; omega) (by show _ - (i + 1) < _ - i; omega))
      · have hst : stepA s (actsM s) xb.1 = [] := by unfold stepA; rw [if_neg n116, if_neg (fun h => h105 h.1), if_neg (fun h => h111 h.1), if_neg h111]
        refine e_ 95 rfl (x' := AB false) (ab_eq (beq_eq_false_iff_ne.2 h111)) ?_
        refine e_ 117 rfl (x' := AB false) (ab_eq (beq_eq_false_iff_ne.2 h111)) ?_
        refine A.valE 6 rfl (x' := .sl 14 (movsA (partM s (i + 1))) (some z)) (by rw [hpart, hst, List.append_nil]) ?_
        refine A.valE 24 rfl (x' := AI ((i + 1 : Nat) : Int)) (inc_eq i (by omega)) ?_
        refine l_ (Λ' := [.tail ty59.size z, .box b3 (encST s)]) ?_
        exact A.sub su_ (ih (i + 1, z) (by show i + 1 ≤ _; omega) (by show _ - (i + 1) < _ - i; omega))
  have hci : ¬ i < (actsM s).length := by simpa using hc
  clear hc ih
  have hil : i = (actsM s).length := by omega
  have hmv := move_p s 3 0 0 s.store s.root s.inn hg.small hg.root hg.innl
  have hplen := part_len hal i
  have hall : movesM s = partM s i ++ [tickM s] := by unfold movesM partM; rw [hil, List.take_length]
  have htick : encMV ⟨3, 0, 0, ⟨s.store, normR s.root, s.inn, IntKind.i32.wrap (s.time + 1)⟩⟩ = encMV (tickM s) := by rw [hg.nf]; rfl
  refine y_ ?_
  refine n_ hmv ?_
  (refine b_ fun bx=>?_; refine t_ fun bl=>?_)
  refine A.append rfl rfl rfl rfl rfl rfl rfl rfl rfl rfl rfl rfl rfl rfl (by show ((movsA (partM s i)).length + 1) * 14 ≤ _; rw [List.length_map]; omega) fun z' => ?_
  refine e_ 193 rfl (x' := .sl 14 (movsA (movesM s)) (some z')) (by rw [hall]; show AV.sl 14 (movsA (partM s i) ++ [encMV ⟨3, 0, 0, ⟨s.store, normR s.root, s.inn, IntKind.i32.wrap (s.time + 1)⟩⟩]) _ = _; rw [htick]; exact movs_snoc _ _ _) ?_
  refine R_ ?_; exact .own1
abbrev wordsB (a b : List Int) : Bool := alikeB (· == ·) a b
theorem rwords_p (a b : List Int) (hb : a.length ≤ 281474976710656) : Pure Tryz.prog gs0 14 [rowA a, rowA b] (AB (wordsB a b)) := by
  by_cases hlen : a.length = b.length
  case neg =>
    refine p_ tt_ok Tryz.func14 26 fun w0 h0 F hgs => ?_
    refine y_ ?_
    refine e_ 10 rfl (x' := AB true) (ab_eq (by simp; omega)) ?_; refine R_ ?_; refine Sb.eq (ab_eq ?_); simp [alikeB, hlen]
  refine p_ tt_ok Tryz.func14 26 fun w0 h0 F hgs => ?_
  refine y_ ?_
  refine e_ 10 rfl (x' := AB false) (ab_eq (by simp; omega)) ?_
  refine A.keep [0, 1, 5] rfl ?_
  refine A.loopP (ι := Nat) (fun i => (⟨[(0, rowA a), (1, rowA b), (5, AI (i : Int))], []⟩, [])) (fun i => i ≤ a.length ∧ allEq (· == ·) a b i = true) (fun i => a.length - i) 0 ⟨by omega, rfl⟩ rfl fun i hi ih => ?_
  refine y_ ?_
  refine k_ (fun hc=>?_) fun hc=>?_
  · simp at hc
    refine Exists.elim (at_exN (l := a) (i := i) (by omega)) fun u hu => Exists.elim (at_exN (l := b) (i := i) (by omega)) fun w hw => ?_
    have h3 := allEq_succ (· == ·) hu hw
    refine y_ ?_
    refine d_ 9 [0, 1, 2, 3, 4, 5, 6, 7, 8] [] ?_; refine iw_ rfl (map_at hu) rfl ?_; refine iw_ rfl (map_at hw) rfl ?_; refine WA.nil (l := []) rfl ?_
    refine A.entsEq (Λ' := []) rfl ?_
    refine y_ ?_
    refine k_ (fun he=>?_) fun he=>?_
    · simp at he
      refine y_ ?_; refine R_ ?_; refine Sb.eq (ab_eq ?_)
      have h4 := allEq_le (f := (· == ·)) (a := a) (b := b) (j := i + 1) (by rw [h3]; simp [he]) a.length (by omega)
      simp [alikeB, h4]
    · simp at he
      refine y_ ?_
      refine A.valE 5 rfl (x' := AI ((i + 1 : Nat) : Int)) (inc_eq i (by omega)) ?_
      refine u_ (ih (i + 1) ⟨by omega, by rw [h3]; simp [hi.2, he]⟩ (by omega))
  · simp at hc
    have : i = a.length := by omega
    subst this
    refine y_ ?_; refine R_ ?_; refine Sb.eq (ab_eq ?_); show true = alikeB (· == ·) a b; unfold alikeB; rw [hi.2, decide_eq_true hlen]; rfl
theorem ewords_p (a b : List Int) (hb : a.length ≤ 281474976710656) : Pure Tryz.prog gs0 39 [rowA a, rowA b] (AB (wordsB a b)) := by
  by_cases hlen : a.length = b.length
  case neg =>
    refine p_ tt_ok Tryz.func39 26 fun w0 h0 F hgs => ?_
    refine y_ ?_
    refine e_ 10 rfl (x' := AB true) (ab_eq (by simp; omega)) ?_; refine R_ ?_; refine Sb.eq (ab_eq ?_); simp [alikeB, hlen]
  refine p_ tt_ok Tryz.func39 26 fun w0 h0 F hgs => ?_
  refine y_ ?_
  refine e_ 10 rfl (x' := AB false) (ab_eq (by simp; omega)) ?_
  refine A.valE 12 rfl (x' := AI (a.length : Nat)) (ai_eq (by simp)) ?_
  refine A.keep [0, 1, 12, 13] rfl ?_
  refine A.loopP (ι := Nat) (fun i => (⟨[(0, rowA a), (1, rowA b), (12, AI (a.length : Nat)), (13, AI (i : Int))], []⟩, [])) (fun i => i ≤ a.length ∧ allEq (· == ·) a b i = true) (fun i => a.length - i) 0 ⟨by omega, rfl⟩ rfl fun i hi ih => ?_
  refine y_ ?_
  refine k_ (fun hc=>?_) fun hc=>?_
  · simp at hc
    refine Exists.elim (at_exN (l := a) (i := i) (by omega)) fun u hu => Exists.elim (at_exN (l := b) (i := i) (by omega)) fun w hw => ?_
    have h3 := allEq_succ (· == ·) hu hw
    refine y_ ?_
    refine d_ 9 [0, 1, 2, 3, 4, 5, 6, 7, 8] [] ?_; refine iw_ rfl (map_at hu) rfl ?_; refine iw_ rfl (map_at hw) rfl ?_; refine WA.nil (l := []) rfl ?_
    refine A.entsEq (Λ' := []) rfl ?_
    refine y_ ?_
    refine k_ (fun he=>?_) fun he=>?_
    · simp at he
      refine y_ ?_; refine R_ ?_; refine Sb.eq (ab_eq ?_)
      have h4 := allEq_le (f := (· == ·)) (a := a) (b := b) (j := i + 1) (by rw [h3]; simp [he]) a.length (by omega)
      simp [alikeB, h4]
    · simp at he
      refine y_ ?_
      refine A.valE 13 rfl (x' := AI ((i + 1 : Nat) : Int)) (inc_eq i (by omega)) ?_
      refine u_ (ih (i + 1) ⟨by omega, by rw [h3]; simp [hi.2, he]⟩ (by omega))
  · simp at hc
    have : i = a.length := by omega
    subst this
    refine y_ ?_; refine R_ ?_; refine Sb.eq (ab_eq ?_); show true = alikeB (· == ·) a b; unfold alikeB; rw [hi.2, decide_eq_true hlen]; rfl
def sameStB (a b : ST) : Bool := (a.time == b.time) && (wordsB a.inn b.inn && (sameB a.store b.store && eqR a.root b.root))
structure SmS (a : ST) : Prop where
  inn : a.inn.length ≤ 281474976710656
  store : short a.store
  root : smR a.root
theorem ssame_p (a b : ST) (h : SmS a) : Pure Tryz.prog gs0 15 [encST a, encST b] (AB (sameStB a b)) := by
  have h1 := ewords_p a.inn b.inn h.inn
  have h2 := Same_p a.store b.store h.store
  have h3 := psame_p a.root b.root h.root
  unfold sameStB
  generalize hq0 : (a.time == b.time) = q0
  generalize wordsB a.inn b.inn = q1 at h1 ⊢
  generalize sameB a.store b.store = q2 at h2 ⊢
  generalize eqR a.root b.root = q3 at h3 ⊢
  cases q0 with
  | false => refine p_ tt_ok Tryz.func15 31 fun w0 h0 F hgs => ?_; (refine b_ fun bx=>?_; refine b_ fun bx=>?_; refine y_ ?_); refine F_ rfl hq0 ?_; exact r_
  | true =>
    cases q1 with
    | false => refine p_ tt_ok Tryz.func15 31 fun w0 h0 F hgs => ?_; (refine b_ fun bx=>?_; refine b_ fun bx=>?_; refine y_ ?_); refine T_ rfl hq0 ?_; exact cr_ h1
    | true =>
      cases q2 with
      | false => refine p_ tt_ok Tryz.func15 31 fun w0 h0 F hgs => ?_; (refine b_ fun bx=>?_; refine b_ fun bx=>?_; refine y_ ?_); refine T_ rfl hq0 ?_; refine c_ h1 ?_; exact cr_ h2
      | true => refine p_ tt_ok Tryz.func15 31 fun w0 h0 F hgs => ?_; (refine b_ fun bx=>?_; refine b_ fun bx=>?_; refine y_ ?_); refine T_ rfl hq0 ?_; refine c_ h1 ?_; refine c_ h2 ?_; exact cr_ h3
theorem rsame_p (a b : ST) (h : SmS a) : Pure Tryz.prog gs0 13 [encST a, encST b] (AB (sameStB a b)) := by
  have h1 := rwords_p a.inn b.inn h.inn
  have h2 := rSame_p a.store b.store h.store
  have h3 := procs_p [a.root] [b.root] (by simp) (fun x hx => by rw [List.mem_singleton] at hx; subst hx; exact h.root)
  have h4 : eqRl [a.root] [b.root] = eqR a.root b.root := by rw [eqRl, eqRl, Bool.and_true]
  rw [h4] at h3
  have e1 : ∀ q : PR, rsA [q] = .sl 8 [cellsR q] none := fun q => by show AV.sl 8 (encRl [q]) none = _; rw [encRl_cells]; rfl
  rw [e1, e1] at h3
  unfold sameStB
  generalize hq0 : (a.time == b.time) = q0
  generalize wordsB a.inn b.inn = q1 at h1 ⊢
  generalize sameB a.store b.store = q2 at h2 ⊢
  generalize eqR a.root b.root = q3 at h3 ⊢
  cases q0 with
  | false => refine p_ tt_ok Tryz.func13 33 fun w0 h0 F hgs => ?_; (refine b_ fun bx=>?_; refine b_ fun bx=>?_; refine y_ ?_); refine F_ rfl hq0 ?_; exact r_
  | true =>
    cases q1 with
    | false => refine p_ tt_ok Tryz.func13 33 fun w0 h0 F hgs => ?_; (refine b_ fun bx=>?_; refine b_ fun bx=>?_; refine y_ ?_); refine T_ rfl hq0 ?_; exact cr_ h1
    | true =>
      cases q2 with
      | false => refine p_ tt_ok Tryz.func13 33 fun w0 h0 F hgs => ?_; (refine b_ fun bx=>?_; refine b_ fun bx=>?_; refine y_ ?_); refine T_ rfl hq0 ?_; refine c_ h1 ?_; exact cr_ h2
      | true => refine p_ tt_ok Tryz.func13 33 fun w0 h0 F hgs => ?_; (refine b_ fun bx=>?_; refine b_ fun bx=>?_; refine y_ ?_); refine T_ rfl hq0 ?_; refine c_ h1 ?_; refine n_ h2 ?_; (refine t_ fun bl=>?_; refine t_ fun bl=>?_); exact cr_ h3
theorem sdone_p (a : ST) (h : smR a.root) : Pure Tryz.prog gs0 16 [encST a] (AB (doneR a.root)) := by
  have h1 := done_p a.root h
  refine p_ tt_ok Tryz.func16 6 fun w0 h0 F hgs => ?_; (refine b_ fun bx=>?_; refine y_ ?_); exact cr_ h1
theorem rdoneS_p (a : ST) (h : smR a.root) : Pure Tryz.prog gs0 17 [encST a] (AB (doneR a.root)) := by
  have h1 := rdone_p a.root h
  refine p_ tt_ok Tryz.func17 6 fun w0 h0 F hgs => ?_; (refine b_ fun bx=>?_; refine y_ ?_); exact cr_ h1
theorem bl_lt {p x : PR} {g : GD} (hg : g ∈ p.gs) (h : x ∈ g.body) : SizeOf.sizeOf x < SizeOf.sizeOf p := by
  have h1 := gg_lt hg
  have h2 := bd_lt h
  omega
theorem skol18 {P : PR → Int → Prop} {S : PR → Prop} (h : ∀ x, S x → ∃ n, P x n) : ∃ f : PR → Int, ∀ x, S x → P x (f x) := by
  classical
  exact ⟨fun x => if hx : S x then (h x hx).choose else 0, fun x hx => by simp only [dif_pos hx]; exact (h x hx).choose_spec⟩
def addS (f : PR → Int) (n : Int) (x : PR) : Int := IntKind.i64.wrap (n + f x)
def sumS (f : PR → Int) (p : PR) : Int := p.gs.foldl (fun n g => g.body.foldl (addS f) n) (p.l.foldl (addS f) 1)
theorem rsz_f (p : PR) (hs : smR p) (f : PR → Int) (hl : ∀ x, x ∈ p.l → Pure Tryz.prog gs0 29 [cellsR x] (AI (f x))) (hg : ∀ g, g ∈ p.gs → ∀ x, x ∈ g.body → Pure Tryz.prog gs0 29 [cellsR x] (AI (f x))) :
    Pure Tryz.prog gs0 29 [cellsR p] (AI (sumS f p)) := by
  have hsa := smR_all hs
  have hll := hsa.ll
  have hgl := hsa.gl
  have n1 : ((encRl p.l).length : Int) = p.l.length := by rw [encRl_len]
  have n2 : ((encGl p.gs).length : Int) = p.gs.length := by rw [encGl_len]
  unfold sumS
  refine p_ tt_ok Tryz.func29 53 fun w0 h0 F hgs => ?_
  (refine b_ fun bx=>?_; refine y_ ?_)
  refine A.freeze 1 (sz := 8) rfl rfl rfl ?_
  refine A.keep [1, 3, 4] rfl ?_
  refine A.loopP (ι := Nat) (fun i => (⟨[(1, .pe 8 (cellsR p)), (3, AI ((p.l.take i).foldl (addS f) 1)), (4, AI (i : Nat))], []⟩, [])) (fun i => i ≤ p.l.length) (fun i => p.l.length - i) 0 (Nat.zero_le _) rfl fun i hi ih => ?_
  refine y_ ?_
  refine k_ (fun hc=>?_) fun hc=>?_
  · have hc' : i < p.l.length := by have := hc; simp only [n1, decide_eq_true_eq] at this; omega
    refine Exists.elim (at_exN (l := p.l) (i := i) hc') fun x hx => ?_
    have hsz := hl x (List.mem_of_getElem? hx)
    have htk : p.l.take (i + 1) = p.l.take i ++ [x] := by rw [List.take_add_one, hx]; rfl
    refine y_ ?_
    refine i_ rfl (encRl_at hx) (encR_eq x) ?_
    refine c_ hsz ?_
    refine A.valE 3 rfl (x' := AI ((p.l.take (i + 1)).foldl (addS f) 1)) (by rw [htk, List.foldl_append]; rfl) ?_
    refine A.valE 4 rfl (x' := AI ((i + 1 : Nat) : Int)) (inc_eq i (by omega)) ?_
    refine u_ (ih (i + 1) (by omega) (by omega))
  have hc' : ¬ i < p.l.length := by have := hc; simp only [n1, decide_eq_false_iff_not] at this; omega
  have hil : i = p.l.length := by omega
  refine e_ 3 rfl (x' := AI (p.l.foldl (addS f) 1)) (by rw [hil, List.take_length]) ?_
  refine A.keep [1, 3, 5] rfl ?_
  refine A.loopP (ι := Nat) (fun j => (⟨[(1, .pe 8 (cellsR p)), (3, AI ((p.gs.take j).foldl (fun n g => g.body.foldl (addS f) n) (p.l.foldl (addS f) 1))), (5, AI (j : Nat))], []⟩, [])) (fun j => j ≤ p.gs.length) (fun j => p.gs.length - j) 0 (Nat.zero_le _) rfl fun j hj jh => ?_
  refine y_ ?_
  refine k_ (fun hc=>?_) fun hc=>?_
  · have hc' : j < p.gs.length := by have := hc; simp only [n2, decide_eq_true_eq] at this; omega
    refine Exists.elim (at_exN (l := p.gs) (i := j) hc') fun g hgj => ?_
    have hgm := List.mem_of_getElem? hgj
    have htk : p.gs.take (j + 1) = p.gs.take j ++ [g] := by rw [List.take_add_one, hgj]; rfl
    have n3 : ((encRl g.body).length : Int) = g.body.length := by rw [encRl_len]
    have hbl := (smG_all (hsa.g g hgm)).bl
    refine Exists.elim (show ∃ n0, n0 = (p.gs.take j).foldl (fun n g => g.body.foldl (addS f) n) (p.l.foldl (addS f) 1) from ⟨_, rfl⟩) fun n0 hn0 => ?_
    refine e_ 3 rfl (x' := AI n0) (by rw [hn0]) ?_
    refine A.keep [1, 3, 5, 6] rfl ?_
    refine A.loopP (ι := Nat) (fun t => (⟨[(1, .pe 8 (cellsR p)), (3, AI ((g.body.take t).foldl (addS f) n0)), (5, AI (j : Nat)), (6, AI (t : Nat))], []⟩, [])) (fun t => t ≤ g.body.length) (fun t => g.body.length - t) 0 (Nat.zero_le _) rfl fun t ht th => ?_
    refine y_ ?_
    refine i_ rfl (encGl_at hgj) (encG_eq g) ?_
    refine k_ (fun hc=>?_) fun hc=>?_
    · have hct : t < g.body.length := by have := hc; simp only [n3, decide_eq_true_eq] at this; omega
      refine Exists.elim (at_exN (l := g.body) (i := t) hct) fun x hx => ?_
      have hsz := hg g hgm x (List.mem_of_getElem? hx)
      have htk2 : g.body.take (t + 1) = g.body.take t ++ [x] := by rw [List.take_add_one, hx]; rfl
      refine y_ ?_
      refine i_ rfl (encGl_at hgj) (encG_eq g) ?_
      refine i_ rfl (encRl_at hx) (encR_eq x) ?_
      refine c_ hsz ?_
      refine A.valE 3 rfl (x' := AI ((g.body.take (t + 1)).foldl (addS f) n0)) (by rw [htk2, List.foldl_append]; rfl) ?_
      refine A.valE 6 rfl (x' := AI ((t + 1 : Nat) : Int)) (inc_eq t (by omega)) ?_
      refine u_ (th (t + 1) (by omega) (by omega))
    have hct : ¬ t < g.body.length := by have := hc; simp only [n3, decide_eq_false_iff_not] at this; omega
    have htl : t = g.body.length := by omega
    refine e_ 3 rfl (x' := AI ((p.gs.take (j + 1)).foldl (fun n g => g.body.foldl (addS f) n) (p.l.foldl (addS f) 1))) (by rw [htl, List.take_length, htk, List.foldl_append, ← hn0]; rfl) ?_
    refine A.valE 5 rfl (x' := AI ((j + 1 : Nat) : Int)) (inc_eq j (by omega)) ?_
    refine u_ (jh (j + 1) (by omega) (by omega))
  have hc' : ¬ j < p.gs.length := by have := hc; simp only [n2, decide_eq_false_iff_not] at this; omega
  have hjl : j = p.gs.length := by omega
  rw [hjl, List.take_length]
  exact yr_
theorem rsz_ex : ∀ (m : Nat) (p : PR), SizeOf.sizeOf p ≤ m → smR p → ∃ n, Pure Tryz.prog gs0 29 [cellsR p] (AI n)
  | 0, p, h, _ => by
    obtain ⟨k, c, v, i, to, e, gs, l⟩ := p
    simp only [PR.mk.sizeOf_spec] at h; omega
  | m + 1, p, h, hw => by
    have hwa := smR_all hw
    obtain ⟨f, hf⟩ := skol18 (S := fun x => SizeOf.sizeOf x ≤ m ∧ smR x) (P := fun x n => Pure Tryz.prog gs0 29 [cellsR x] (AI n)) fun x hx => rsz_ex m x hx.1 hx.2
    exact ⟨_, rsz_f p hw f (fun x hx => hf x ⟨by have := pr_lt hx; omega, hwa.l x hx⟩) (fun g hg x hx => hf x ⟨by have := bl_lt hg hx; omega, (smG_all (hwa.g g hg)).body x hx⟩)⟩
theorem fold_szL : ∀ (l : List PR) (n : Int), 0 ≤ n → n + (szL l : Nat) ≤ 4294967296 → l.foldl (addS fun x => (szR x : Nat)) n = n + (szL l : Nat)
  | [], n, _, _ => by rw [szL]; simp
  | x :: r, n, h0, h => by
    rw [szL] at h ⊢
    have e : addS (fun x => (szR x : Nat)) n x = n + (szR x : Nat) := by
      show IntKind.i64.wrap (n + ((szR x : Nat) : Int)) = _
      exact wr64 _ (by omega)
    rw [List.foldl_cons, e, fold_szL r _ (by omega) (by omega)]
    omega
theorem fold_szGs : ∀ (l : List GD) (n : Int), 0 ≤ n → n + (szGs l : Nat) ≤ 4294967296 → l.foldl (fun n g => g.body.foldl (addS fun x => (szR x : Nat)) n) n = n + (szGs l : Nat)
  | [], n, _, _ => by rw [szGs]; simp
  | g :: r, n, h0, h => by
    rw [szGs, szG_eq] at h ⊢
    rw [List.foldl_cons, fold_szL g.body n h0 (by omega), fold_szGs r _ (by omega) (by omega)]
    omega
theorem rsz_n : ∀ (m : Nat) (p : PR), SizeOf.sizeOf p ≤ m → smR p → szR p ≤ 1000000 → Pure Tryz.prog gs0 29 [cellsR p] (AI (szR p : Nat))
  | 0, p, h, _, _ => by
    obtain ⟨k, c, v, i, to, e, gs, l⟩ := p
    simp only [PR.mk.sizeOf_spec] at h; omega
  | m + 1, p, h, hw, hz => by
    have hwa := smR_all hw
    have e := szR_eq p
    have h1 := rsz_f p hw (fun x => (szR x : Nat)) (fun x hx => rsz_n m x (by have := pr_lt hx; omega) (hwa.l x hx) (by have := szL_le hx; omega))
      (fun g hg x hx => rsz_n m x (by have := bl_lt hg hx; omega) ((smG_all (hwa.g g hg)).body x hx) (by have := szGs_le hg; have := szL_le hx; rw [szG_eq] at *; omega))
    have e2 : sumS (fun x => (szR x : Nat)) p = (szR p : Nat) := by
      unfold sumS
      rw [fold_szL p.l 1 (by omega) (by omega), fold_szGs p.gs _ (by omega) (by omega)]
      omega
    rw [e2] at h1; exact h1
theorem rsz_p {p : PR} (hw : smR p) (hz : szR p ≤ 1000000) : Pure Tryz.prog gs0 29 [cellsR p] (AI (szR p : Nat)) := rsz_n _ p (Nat.le_refl _) hw hz
theorem rsz_if {p : PR} (hw : smR p) : ∃ n, Pure Tryz.prog gs0 29 [cellsR p] (AI n) ∧ (szR p ≤ 1000000 → n = (szR p : Nat)) := by
  by_cases hz : szR p ≤ 1000000
  · exact ⟨_, rsz_p hw hz, fun _ => rfl⟩
  · obtain ⟨n, hn⟩ := rsz_ex _ p (Nat.le_refl _) hw
    exact ⟨n, hn, fun h => absurd h hz⟩
structure SmN (k : KN) : Prop where
  wf : WfN k
  root : smR k.root
structure Fit (k : KN) (s : ST) : Prop where
  vars : k.vars.length ≤ 60
  chans : k.chans.length ≤ 70
  procs : k.procs.length ≤ 20
  store : s.store.length ≤ 60
  inn : s.inn.length ≤ 60
  rows : ∀ r, r ∈ s.store → r.length ≤ 70
  size : szR k.root ≤ 1000000 → szR k.root ≤ 100
  sizeS : szR s.root ≤ 1000000 → szR s.root ≤ 250
theorem large_p (k : KN) (s : ST) (hk : SmN k) (hs : SmS s) : ∃ b, Pure Tryz.prog gs0 9 [encN k, encST s] (AB b) ∧ (b = false → Fit k s) := by
  have n1 : ((k.vars.map encV).length : Int) = k.vars.length := by rw [List.length_map]
  have n2 : ((k.chans.map AU8).length : Int) = k.chans.length := by rw [List.length_map]
  have n3 : ((k.procs.map AI).length : Int) = k.procs.length := by rw [List.length_map]
  have n4 : ((s.store.map rowA).length : Int) = s.store.length := by rw [List.length_map]
  have n5 : ((s.inn.map AI32).length : Int) = s.inn.length := by rw [List.length_map]
  obtain ⟨z1, hz1, he1⟩ := rsz_if hk.root
  obtain ⟨z2, hz2, he2⟩ := rsz_if hs.root
  have hst := hs.store
  by_cases c1 : 60 < k.vars.length
  · refine ⟨true, ?_, fun h => by cases h⟩
    refine p_ tt_ok Tryz.func9 58 fun w0 h0 F hgs => ?_; (refine b_ fun bx=>?_; refine b_ fun bx=>?_; refine y_ ?_); refine T_ rfl (by rw [n1]; show decide _ = true; rw [decide_eq_true_eq]; omega) ?_; exact r_
  by_cases c2 : 70 < k.chans.length
  · refine ⟨true, ?_, fun h => by cases h⟩
    refine p_ tt_ok Tryz.func9 58 fun w0 h0 F hgs => ?_; (refine b_ fun bx=>?_; refine b_ fun bx=>?_; refine y_ ?_); refine F_ rfl (by rw [n1]; show decide _ = false; rw [decide_eq_false_iff_not]; omega) ?_; refine T_ rfl (by rw [n2]; show decide _ = true; rw [decide_eq_true_eq]; omega) ?_; exact r_
  by_cases c3 : 20 < k.procs.length
  · refine ⟨true, ?_, fun h => by cases h⟩
    refine p_ tt_ok Tryz.func9 58 fun w0 h0 F hgs => ?_; (refine b_ fun bx=>?_; refine b_ fun bx=>?_; refine y_ ?_); refine F_ rfl (by rw [n1]; show decide _ = false; rw [decide_eq_false_iff_not]; omega) ?_; refine F_ rfl (by rw [n2]; show decide _ = false; rw [decide_eq_false_iff_not]; omega) ?_; refine T_ rfl (by rw [n3]; show decide _ = true; rw [decide_eq_true_eq]; omega) ?_; exact r_
  by_cases c4 : 60 < s.store.length
  · refine ⟨true, ?_, fun h => by cases h⟩
    refine p_ tt_ok Tryz.func9 58 fun w0 h0 F hgs => ?_; (refine b_ fun bx=>?_; refine b_ fun bx=>?_; refine y_ ?_); refine F_ rfl (by rw [n1]; show decide _ = false; rw [decide_eq_false_iff_not]; omega) ?_; refine F_ rfl (by rw [n2]; show decide _ = false; rw [decide_eq_false_iff_not]; omega) ?_; refine F_ rfl (by rw [n3]; show decide _ = false; rw [decide_eq_false_iff_not]; omega) ?_; refine T_ rfl (by rw [n4]; show decide _ = true; rw [decide_eq_true_eq]; omega) ?_; exact r_
  by_cases c5 : 60 < s.inn.length
  · refine ⟨true, ?_, fun h => by cases h⟩
    refine p_ tt_ok Tryz.func9 58 fun w0 h0 F hgs => ?_; (refine b_ fun bx=>?_; refine b_ fun bx=>?_; refine y_ ?_); refine F_ rfl (by rw [n1]; show decide _ = false; rw [decide_eq_false_iff_not]; omega) ?_; refine F_ rfl (by rw [n2]; show decide _ = false; rw [decide_eq_false_iff_not]; omega) ?_; refine F_ rfl (by rw [n3]; show decide _ = false; rw [decide_eq_false_iff_not]; omega) ?_; refine F_ rfl (by rw [n4]; show decide _ = false; rw [decide_eq_false_iff_not]; omega) ?_; refine T_ rfl (by rw [n5]; show decide _ = true; rw [decide_eq_true_eq]; omega) ?_; exact r_
  refine ⟨(s.store.any fun r => decide (70 < r.length)) || (decide (100 < z1) || decide (250 < z2)), ?_, fun h => ?_⟩
  · generalize hq2 : decide (100 < z1) = q2
    generalize hq3 : decide (250 < z2) = q3
    generalize hq1 : (s.store.any fun r => decide (70 < r.length)) = q1
    refine p_ tt_ok Tryz.func9 58 fun w0 h0 F hgs => ?_; (refine b_ fun bx=>?_; refine b_ fun bx=>?_; refine y_ ?_); refine F_ rfl (by rw [n1]; show decide _ = false; rw [decide_eq_false_iff_not]; omega) ?_; refine F_ rfl (by rw [n2]; show decide _ = false; rw [decide_eq_false_iff_not]; omega) ?_; refine F_ rfl (by rw [n3]; show decide _ = false; rw [decide_eq_false_iff_not]; omega) ?_; refine F_ rfl (by rw [n4]; show decide _ = false; rw [decide_eq_false_iff_not]; omega) ?_; refine F_ rfl (by rw [n5]; show decide _ = false; rw [decide_eq_false_iff_not]; omega) ?_
    refine A.keep [2, 3, 5] rfl ?_
    refine A.loopP (ι := Nat) (fun i => (⟨[(2, _), (3, _), (5, AI (i : Nat))], []⟩, _)) (fun i => i ≤ s.store.length ∧ ∀ j r, j < i → s.store[j]? = some r → r.length ≤ 70) (fun i => s.store.length - i) 0 ⟨Nat.zero_le _, fun j r h => by omega⟩ rfl fun i hi ih => ?_
    refine y_ ?_
    refine k_ (fun hc=>?_) fun hc=>?_
    · have hci : i < s.store.length := by have := hc; simp only [n4, decide_eq_true_eq] at this; omega
      clear hc
      refine Exists.elim (at_exN (l := s.store) (i := i) hci) fun r hr => ?_
      have nr : ((r.map AI32).length : Int) = r.length := by rw [List.length_map]
      refine y_ ?_
      refine i_ rfl (map_at hr) rfl ?_
      refine k_ (fun hc=>?_) fun hc=>?_
      · have hcr : 70 < r.length := by have := hc; simp only [nr, decide_eq_true_eq] at this; omega
        have e : q1 = true := by
          rw [← hq1, List.any_eq_true]
          exact ⟨r, List.mem_of_getElem? hr, decide_eq_true hcr⟩
        rw [e]
        exact yr_
      have hcr : ¬ 70 < r.length := by have := hc; simp only [nr, decide_eq_false_iff_not] at this; omega
      refine y_ ?_
      refine A.valE 5 rfl (x' := AI ((i + 1 : Nat) : Int)) (inc_eq i (by omega)) ?_
      refine u_ (ih (i + 1) ⟨by omega, fun j r' hj hr' => ?_⟩ (by omega))
      by_cases hji : j = i
      · rw [hji, hr] at hr'; injection hr' with hr'; rw [← hr']; omega
      · exact hi.2 j r' (by omega) hr'
    have hci : ¬ i < s.store.length := by have := hc; simp only [n4, decide_eq_false_iff_not] at this; omega
    clear hc ih
    have e : q1 = false := by
      rw [← hq1, List.any_eq_false]
      intro r hr
      obtain ⟨j, hj, rfl⟩ := List.getElem_of_mem hr
      have := hi.2 j _ (by omega) (List.getElem?_eq_getElem hj)
      simp; omega
    rw [e, Bool.false_or]
    refine y_ ?_
    refine n_ hz1 ?_
    cases q2 with
    | true =>
      refine y_ ?_
      refine T_ rfl hq2 ?_; exact r_
    | false =>
      refine y_ ?_
      refine F_ rfl hq2 ?_
      refine c_ hz2 ?_
      refine R_ ?_; exact Sb.eq (ab_eq hq3)
  · simp only [Bool.or_eq_false_iff, List.any_eq_false, decide_eq_false_iff_not, decide_eq_true_eq] at h
    obtain ⟨h1, h2, h3⟩ := h
    refine ⟨by omega, by omega, by omega, by omega, by omega, fun r hr => by have := h1 r hr; omega, fun hz => ?_, fun hz => ?_⟩
    · have := he1 hz; omega
    · have := he2 hz; omega
def zeroS : ST := ⟨[], ⟨0, 0, 0, 0, [], [], [], []⟩, [], 0⟩
theorem start_no (k : KN) (hk : SmN k) (hm : mayK k = false) (inn : List Int) : Pure Tryz.prog gs0 11 [encN k, rowA inn] (.tp [encST zeroS, AI 2]) := by
  have h1 := kmay_p k hk.wf
  rw [hm] at h1
  refine p_ tt_ok Tryz.func11 19 fun w0 h0 F hgs => ?_
  (refine b_ fun bx=>?_; refine b_ fun bx=>?_; refine y_ ?_)
  refine c_ h1 ?_
  refine m_ (ResA.cell rfl rfl rfl (ResA.tmp rfl ResA.nil)) ?_; exact s_
theorem start_yes (k : KN) (hk : SmN k) (hm : mayK k = true) (inn : List Int) (hi : inn.length ≤ 35184372088832) : Pure Tryz.prog gs0 11 [encN k, rowA inn] (.tp [encST (startS k inn), AI 0]) := by
  have h1 := kmay_p k hk.wf
  rw [hm] at h1
  have h2 := storeS_pN k.vars k.chans k.root k.procs hk.wf.vars
  obtain ⟨w1, w2, w3⟩ := okF_sm (start_root hm hk.wf hk.root)
  have h3 := norm_p k.root w2 w3
  have h4 := copied_p (normR k.root) (norm_sm w2)
  have h5 := cloned_p inn hi
  refine p_ tt_ok Tryz.func11 19 fun w0 h0 F hgs => ?_
  (refine b_ fun bx=>?_; refine b_ fun bx=>?_; refine y_ ?_)
  refine c_ h1 ?_
  refine d_ 9 [0, 2, 3, 6, 1, 4, 5, 7, 8] [(1, rowsA (storeS k.vars)), (4, cellsR (normR k.root)), (5, cellsR (normR k.root)), (7, rowA inn)] ?_
  refine cw_ h2 ?_
  refine cw_ h3 ?_
  refine cw_ h4 ?_
  refine cw_ h5 ?_
  refine z_ ?_
  refine m_ (ResA.cell rfl rfl rfl (ResA.tmp rfl ResA.nil)) ?_; exact s_
theorem evSt (a b c d : Int) : EqSt Tryz.prog 57 [.int .i64 a, .int .i32 b] [.int .i64 c, .int .i32 d] (a == c && b == d) where
  guard := by kernel_rfl
  run := fun w => by
    have hS : Tryz.prog.underlying 57 = some (.struct (Tryz.prog.fieldsOf 57)) := by kernel_rfl
    have hF : (Tryz.prog.fieldsOf 57).toList = (#[⟨"C", 3, 0, false, "", "", 0⟩, ⟨"V", 21, 1, false, "", "", 8⟩] : Array Field).toList := by kernel_rfl
    have hp : Tryz.prog.stoodInHeld 57 = false := by kernel_rfl
    have u1 : Tryz.prog.underlying 3 = some (.int .i64) := by kernel_rfl
    have u2 : Tryz.prog.underlying 21 = some (.int .i32) := by kernel_rfl
    have k1 := TT.Ok.get tt_ok (show tt.get 3 = some _ from rfl)
    have k2 := TT.Ok.get tt_ok (show tt.get 21 = some _ from rfl)
    have p1 : ∀ (x y : Int), (part 3 ⟨[.int .i64 x, .int .i32 y]⟩ 0).run Tryz.prog w = .ok (.int .i64 x) w := fun x y => run_part k1 rfl
    have p2 : ∀ (x y : Int), (part 21 ⟨[.int .i64 x, .int .i32 y]⟩ 1).run Tryz.prog w = .ok (.int .i32 y) w := fun x y => run_part k2 rfl
    have q1 := run_equalIn_int (P := Tryz.prog) w 9998 3 .i64 .i64 a c u1
    have q2 := run_equalIn_int (P := Tryz.prog) w 9998 21 .i32 .i32 b d u2
    rw [show (10000 : Nat) = 9999 + 1 from rfl, run_equalIn_agg w 9999 _ _ _ hS hp, hF]
    simp only [Op.eqFields, ne_eq, Sem.run_bind, Sem.run_ite, p1, p2, q1, q2, Result.andThen_ok, Sem.run_pure]
    cases h1 : (a == c) <;> cases h2 : (b == d) <;> simp
abbrev knum (n : Int) : KE := ⟨1, 0, 0, n, 0, []⟩
abbrev kvar (v : Int) : KE := ⟨2, 0, 0, 0, v, []⟩
theorem lnum_p (n : Int) : Pure Tryz.prog gs0 55 [AI32 n] (encK (knum n)) := by
  refine p_ tt_ok Tryz.func55 5 fun w0 h0 F hgs => ?_
  (refine b_ fun bx=>?_; refine y_ ?_); refine A.retC (Λ' := []) rfl rfl rfl rfl rfl (List.nil_sublist _) ⟨?_, rfl⟩; exact s_
theorem lvar_p (n : Int) : Pure Tryz.prog gs0 56 [AI n] (encK (kvar n)) := by
  refine p_ tt_ok Tryz.func56 5 fun w0 h0 F hgs => ?_
  (refine b_ fun bx=>?_; refine y_ ?_); refine A.retC (Λ' := []) rfl rfl rfl rfl rfl (List.nil_sublist _) ⟨?_, rfl⟩; exact s_
abbrev pOut : PR := ⟨6, 2, 0, 1, [], [knum 5], [], []⟩
abbrev pIn : PR := ⟨5, 2, 0, 1, [⟨0, []⟩], [], [], []⟩
abbrev pTell : PR := ⟨6, 1, 0, 1, [], [kvar 0], [], []⟩
abbrev pSeq : PR := ⟨9, 0, 0, 0, [], [], [], [pIn, pTell]⟩
abbrev pRoot : PR := ⟨10, 0, 0, 0, [], [], [], [pOut, pSeq]⟩
abbrev sampleK : KN := ⟨[⟨1, 0⟩], [1, 2, 0], pRoot, []⟩
theorem sample_p : Pure Tryz.prog gs0 30 [] (encN sampleK) := by
  have h1 := lnum_p 5
  have h2 := lvar_p 0
  refine p_ tt_ok Tryz.func30 26 fun w0 h0 F hgs => ?_
  (refine b_ fun bx=>?_; refine y_ ?_)
  refine n_ h1 ?_
  (refine t_ fun bl=>?_; refine b_ fun bx=>?_; refine t_ fun bl=>?_; refine b_ fun bx=>?_; refine y_ ?_)
  refine n_ h2 ?_
  (refine t_ fun bl=>?_; refine b_ fun bx=>?_; refine t_ fun bl=>?_; refine b_ fun bx=>?_; refine t_ fun bl=>?_; refine t_ fun bl=>?_; refine t_ fun bl=>?_; refine y_ ?_)
  refine A.retC (Λ' := []) rfl rfl rfl rfl rfl (List.nil_sublist _) ⟨?_, rfl⟩; exact s_
theorem sample_may : mayK sampleK = true := by kernel_rfl
theorem zero_may : mayK ⟨[], [], ⟨0, 0, 0, 0, [], [], [], []⟩, []⟩ = false := by kernel_rfl
theorem sample_sm : SmN sampleK where
  wf := ⟨by decide, by decide, by decide, by simp [wfR, wfRl, wfGl, wfKl, wfK, wfPl, i32, i64, Go.Tp.u8]⟩
  root := by simp [smR, smRl, smGl, smK, smKl, smP]
theorem zero_sm : SmN ⟨[], [], ⟨0, 0, 0, 0, [], [], [], []⟩, []⟩ where
  wf := ⟨by decide, by decide, by decide, by simp [wfR, wfRl, wfGl, wfKl, wfK, wfPl, i32, i64, Go.Tp.u8]⟩
  root := by simp [smR, smRl, smGl, smK, smKl, smP]
abbrev rt1 : PR := ⟨10, 0, 0, 0, [], [], [], [skipR, pTell]⟩
abbrev st0 : ST := ⟨[[0]], pRoot, [], 0⟩
abbrev st1 : ST := ⟨[[5]], rt1, [], 0⟩
abbrev st2 : ST := ⟨[[5]], skipR, [], 0⟩
theorem start0 : startS sampleK [] = st0 := by kernel_rfl
theorem mv0 : movesM st0 = [⟨2, 2, 5, st1⟩, ⟨3, 0, 0, ⟨[[0]], pRoot, [], 1⟩⟩] := by kernel_rfl
theorem mv1 : movesM st1 = [⟨2, 1, 5, st2⟩, ⟨3, 0, 0, ⟨[[5]], rt1, [], 1⟩⟩] := by kernel_rfl
theorem mv2 : movesM st2 = [⟨3, 0, 0, ⟨[[5]], skipR, [], 1⟩⟩] := by kernel_rfl
theorem good0 : GoodK sampleK st0 := by
  have := start_good sample_may sample_sm.wf sample_sm.root (inn := []) (fun x h => by cases h) (by decide)
  rw [start0] at this; exact this
theorem good1 : GoodK sampleK st1 := (moves_good good0 ⟨2, 2, 5, st1⟩ (by rw [mv0]; exact .head _)).1
theorem good2 : GoodK sampleK st2 := (moves_good good1 ⟨2, 1, 5, st2⟩ (by rw [mv1]; exact .head _)).1
theorem wt0 : wtR st0.root ≤ 8000 := by decide +kernel
theorem wt1 : wtR st1.root ≤ 8000 := by decide +kernel
theorem wt2 : wtR st2.root ≤ 8000 := by decide +kernel
theorem GoodK.sms {k : KN} {s : ST} (h : GoodK k s) : SmS s := ⟨by have := h.innl; omega, h.short, (okF_sm h.root).2.1⟩
theorem head_p : Pure Tryz.prog gs0 10 [] (AB true) := by
  have h1 := start_yes sampleK sample_sm sample_may [] (by decide)
  rw [start0] at h1
  have h2 := sdone_p st0 good0.sms.root
  have e2 : doneR st0.root = false := by decide +kernel
  rw [e2] at h2
  have h3 := smay_p sampleK st0 good0
  have h4 := moves_p sampleK st0 good0 wt0
  rw [mv0] at h4
  have h5 := moves_p sampleK st1 good1 wt1
  rw [mv1] at h5
  have h6 := moves_p sampleK st2 good2 wt2
  rw [mv2] at h6
  have h7 := start_no ⟨[], [], ⟨0, 0, 0, 0, [], [], [], []⟩, []⟩ zero_sm zero_may []
  have h8 := sdone_p st2 good2.sms.root
  have e8 : doneR st2.root = true := by decide +kernel
  rw [e8] at h8
  have h9 := ssame_p st0 st2 good0.sms
  have e9 : sameStB st0 st2 = false := by decide +kernel
  rw [e9] at h9
  have h10 := ssame_p st0 st0 good0.sms
  have e10 : sameStB st0 st0 = true := by decide +kernel
  rw [e10] at h10
  refine p_ tt_ok Tryz.func10 158 fun w0 h0 F hgs => ?_
  refine y_ ?_
  refine n_ sample_p ?_
  (refine b_ fun bx=>?_; refine y_ ?_)
  refine n_ h1 ?_
  (refine b_ fun bx=>?_; refine y_ ?_)
  refine c_ h2 ?_
  refine c_ h3 ?_
  refine c_ h4 ?_
  refine i_ rfl rfl rfl ?_
  refine i_ rfl rfl rfl ?_
  refine A.eqSt rfl rfl rfl rfl rfl rfl rfl rfl (evSt 2 5 2 5) ?_
  refine y_ ?_
  refine i_ rfl rfl rfl ?_
  refine i_ rfl rfl rfl ?_
  refine d_ 6 [0, 1, 2, 3, 4, 5] [(5, .sl 14 (movsA [⟨2, 1, 5, st2⟩, ⟨3, 0, 0, ⟨[[5]], rt1, [], 1⟩⟩]) none)] ?_
  refine iw_ rfl rfl rfl ?_
  refine WA.c rfl rfl h5 (.sub s_) ?_
  refine z_ ?_
  refine i_ rfl rfl rfl ?_
  refine A.eqSt rfl rfl rfl rfl rfl rfl rfl rfl (evSt 1 5 1 5) ?_
  refine y_ ?_
  refine i_ rfl rfl rfl ?_
  refine i_ rfl rfl rfl ?_
  refine i_ rfl rfl rfl ?_
  refine i_ rfl rfl rfl ?_
  refine i_ rfl rfl rfl ?_
  refine i_ rfl rfl rfl ?_
  refine d_ 6 [0, 1, 2, 3, 4, 5] [(5, .sl 14 (movsA [⟨3, 0, 0, ⟨[[5]], skipR, [], 1⟩⟩]) none)] ?_
  refine iw_ rfl rfl rfl ?_
  refine WA.c rfl rfl h6 (.sub s_) ?_
  refine z_ ?_
  refine n_ h7 ?_
  (refine b_ fun bx=>?_; refine y_ ?_)
  refine d_ 35 [0, 1, 2, 3, 4, 5, 6, 7, 8, 9, 10, 11, 12, 13, 14, 15, 16, 17, 18, 19, 20, 21, 22, 23, 24, 25, 26, 27, 28, 29, 30, 31, 32, 33, 34] [(4, AB true), (27, AB false), (33, AB true)] ?_
  refine iw_ rfl rfl rfl ?_
  refine cw_ h8 ?_
  refine iw_ rfl rfl rfl ?_
  refine iw_ rfl rfl rfl ?_
  refine cw_ h9 ?_
  refine cw_ h10 ?_
  refine z_ ?_
  exact r_
abbrev inS (inn : List Int) : ST := ⟨[], ⟨0, 0, 0, 0, [], [], [], []⟩, inn, 0⟩
structure Good1 (k : KN) (inn : List Int) : Prop where
  may : mayK k = true
  fit : Fit k (inS inn)
theorem alike_self {α : Type} {f : α → α → Bool} (hf : ∀ x, f x x = true) (l : List α) : alikeB f l l = true := by
  have h : ∀ n, n ≤ l.length → allEq f l l n = true := fun n => by
    induction n with
    | zero => intro _; rfl
    | succ n ih =>
      intro hn
      obtain ⟨x, hx⟩ := at_exN (l := l) (i := n) (by omega)
      rw [allEq_succ f hx hx, ih (by omega), hf]; rfl
  unfold alikeB
  rw [h _ (Nat.le_refl _)]; simp
theorem sameSt_refl (a : ST) : sameStB a a = true := by
  unfold sameStB
  have h1 : wordsB a.inn a.inn = true := alike_self (fun x => by simp) _
  have h2 : sameB a.store a.store = true := alike_self (fun x => alike_self (fun x => by simp) _) _
  rw [h1, h2, eqR_refl]; simp
theorem same_law (a b : ST) (ha : SmS a) (hb : SmS b) : Pure Tryz.prog gs0 4 [encST a, encST b] (AB true) := by
  obtain ⟨b1, hl1, hf1⟩ := large_p ⟨[], [], ⟨0, 0, 0, 0, [], [], [], []⟩, []⟩ a zero_sm ha
  obtain ⟨b2, hl2, hf2⟩ := large_p ⟨[], [], ⟨0, 0, 0, 0, [], [], [], []⟩, []⟩ b zero_sm hb
  cases b1 with
  | true =>
    refine p_ tt_ok Tryz.func4 36 fun w0 h0 F hgs => ?_
    (refine b_ fun bx=>?_; refine b_ fun bx=>?_; refine y_ ?_)
    refine n_ hl1 ?_
    (refine y_ ?_; exact cr_ head_p)
  | false =>
    cases b2 with
    | true =>
      refine p_ tt_ok Tryz.func4 36 fun w0 h0 F hgs => ?_
      (refine b_ fun bx=>?_; refine b_ fun bx=>?_; refine y_ ?_)
      refine c_ hl1 ?_
      refine n_ hl2 ?_
      (refine y_ ?_; exact cr_ head_p)
    | false =>
      have h1 := ssame_p a b ha
      have h2 := rsame_p a b ha
      have h3 := ssame_p a a ha
      rw [sameSt_refl] at h3
      have h4 := sdone_p a ha.root
      have h5 := rdoneS_p a ha.root
      generalize sameStB a b = q at h1 h2
      generalize doneR a.root = d at h4 h5
      refine p_ tt_ok Tryz.func4 36 fun w0 h0 F hgs => ?_
      (refine b_ fun bx=>?_; refine b_ fun bx=>?_; refine y_ ?_)
      refine c_ hl1 ?_
      refine c_ hl2 ?_
      refine d_ 16 [0, 1, 3, 4, 2, 5, 6, 7, 8, 9, 10, 11, 12, 13, 15, 14] [(2, AB q), (5, AB q), (10, AB true), (14, AB d)] ?_
      refine cw_ h1 ?_
      refine cw_ h2 ?_
      refine Tw_ rfl (show (q == q) = true by cases q <;> rfl) ?_
      refine cw_ h3 ?_
      refine cw_ h4 ?_
      refine WA.nil (l := []) rfl ?_
      refine c_ h5 ?_
      refine A.gT rfl (show (d == d) = true by cases d <;> rfl) ?_
      (exact cr_ head_p)
structure Walk (k : KN) (s : ST) : Prop where
  good : GoodK k s
  wt : wtR s.root ≤ 8000
inductive MK (s : ST) (m : MV) : Prop
  | tau (h : ∃ nx, m = ⟨1, 0, 0, nx⟩ ∧ nx.time = s.time)
  | comm (h : ∃ ec ev nx, m = ⟨2, ec, ev, nx⟩ ∧ nx.time = s.time)
end Go.Proofs.YthdgpbgjmbkleaaGreat
namespace Go.Proofs.YthdgpbgjmbkleaaGreat
open Go Go.Tp Go.ChangeShapes Go.WideShapes Go.ChangeAt Go.RowKit
theorem own : ownKnob Tryz.prog.godebug = none := by kernel_rfl
theorem laidOut : laidOutB Tryz.prog = true := by kernel_rfl
section
variable {H : Type} {enc : TypeId × Value → H} {W : World} {base : Nat} {sp : Nat → Bool} {hd : Bool}
abbrev cellsKl (e : KE) : List AV := [AU8 e.kind, AU8 e.oper, AU8 e.to, AI32 e.n, AI e.v, .sl 6 (encKl e.l) none]
abbrev cellsRl (p : PR) : List AV := [AU8 p.kind, AI p.c, AI p.v, AU8 p.item, plsA p.to, kesA p.e, gsA p.gs, rsA p.l]
abbrev cellsGl (g : GD) : List AV := [AU8 g.kind, AU8 g.cond.kind, AU8 g.cond.oper, AU8 g.cond.to, AI32 g.cond.n, AI g.cond.v, kesA g.cond.l, AI g.c, AU8 g.item, AI g.to.v, kesA g.to.ix, AU8 g.time.kind, AU8 g.time.oper, AU8 g.time.to, AI32 g.time.n, AI g.time.v, kesA g.time.l, rsA g.body]
theorem encKl_ag (l : List KE) : encKl l = l.map fun e => .ag (cellsKl e) := by rw [encKl_map]; congr 1; funext e; exact encK_eq e
theorem encRl_ag (l : List PR) : encRl l = l.map fun e => .ag (cellsRl e) := by rw [encRl_map]; congr 1; funext e; exact encR_eq e
theorem encGl_ag (l : List GD) : encGl l = l.map fun e => .ag (cellsGl e) := by rw [encGl_map]; congr 1; funext e; exact encG_eq e
abbrev OkE (e : KE) : Prop := wfK e ∧ smK e
abbrev OkP (p : PL) : Prop := wfPl p ∧ smP p
abbrev OkR (p : PR) : Prop := wfR p ∧ smR p
abbrev OkG (g : GD) : Prop := wfG g ∧ smG g
theorem okEl_of : ∀ {l : List KE}, (∀ a, a ∈ l → OkE a) → wfKl l ∧ smKl l
  | [], _ => by rw [wfKl, smKl]; exact ⟨trivial, trivial⟩
  | x :: r, h => by
    have h1 := h x (List.mem_cons_self ..)
    have h2 := okEl_of (l := r) fun a ha => h a (List.mem_cons_of_mem _ ha)
    rw [wfKl, smKl]; exact ⟨⟨h1.1, h2.1⟩, ⟨h1.2, h2.2⟩⟩
theorem okRl_of : ∀ {l : List PR}, (∀ a, a ∈ l → OkR a) → wfRl l ∧ smRl l
  | [], _ => by rw [wfRl, smRl]; exact ⟨trivial, trivial⟩
  | x :: r, h => by
    have h1 := h x (List.mem_cons_self ..)
    have h2 := okRl_of (l := r) fun a ha => h a (List.mem_cons_of_mem _ ha)
    rw [wfRl, smRl]; exact ⟨⟨h1.1, h2.1⟩, ⟨h1.2, h2.2⟩⟩
theorem okGl_of : ∀ {l : List GD}, (∀ a, a ∈ l → OkG a) → wfGl l ∧ smGl l
  | [], _ => by rw [wfGl, smGl]; exact ⟨trivial, trivial⟩
  | x :: r, h => by
    have h1 := h x (List.mem_cons_self ..)
    have h2 := okGl_of (l := r) fun a ha => h a (List.mem_cons_of_mem _ ha)
    rw [wfGl, smGl]; exact ⟨⟨h1.1, h2.1⟩, ⟨h1.2, h2.2⟩⟩
theorem op_ke : ∀ n, Opn enc Tryz.prog W base sp hd n 94 cellsKl OkE
  | 0 => Opn.zero
  | n + 1 => by
    have ih := op_ke n
    have hl := (Opn.sliceA (t := 27) (sz := 6) (bt := 40) (by kernel_rfl) (by kernel_rfl) (by kernel_rfl) (by decide) ih).mono (Nat.le_succ n)
    have hf := OpnF.cons (f := ⟨"Kind", 91, 0, false, "", "", 0⟩) (Opn.u8 (by kernel_rfl) n) rfl 1 (by kernel_rfl) (OpnF.cons (f := ⟨"Oper", 92, 1, false, "", "", 1⟩) (Opn.u8 (by kernel_rfl) n) rfl 1 (by kernel_rfl)
      (OpnF.cons (f := ⟨"To", 25, 2, false, "", "", 2⟩) (Opn.u8 (by kernel_rfl) n) rfl 1 (by kernel_rfl) (OpnF.cons (f := ⟨"N", 21, 3, false, "", "", 4⟩) (Opn.i32 (by kernel_rfl) n) rfl 1 (by kernel_rfl)
      (OpnF.cons (f := ⟨"V", 3, 4, false, "", "", 8⟩) (Opn.i64 (by kernel_rfl) n) rfl 1 (by kernel_rfl) (OpnF.cons (f := ⟨"L", 27, 5, false, "", "", 16⟩) hl rfl 1 (by kernel_rfl) OpnF.nil)))))
    refine (Opn.struct (t := 94) (sz := 6) (fs := #[⟨"Kind", 91, 0, false, "", "", 0⟩, ⟨"Oper", 92, 1, false, "", "", 1⟩, ⟨"To", 25, 2, false, "", "", 2⟩, ⟨"N", 21, 3, false, "", "", 4⟩, ⟨"V", 3, 4, false, "", "", 8⟩, ⟨"L", 27, 5, false, "", "", 16⟩]) (by kernel_rfl) (by kernel_rfl) hf (by kernel_rfl)).map (fun p => ⟨p.1, p.2.1, p.2.2.1, p.2.2.2.1, p.2.2.2.2.1, p.2.2.2.2.2.1⟩) (fun p => ?_) (fun p hp => ?_)
    · show cellsKl _ = [_] ++ ([_] ++ ([_] ++ ([_] ++ ([_] ++ ([AV.sl 6 _ none] ++ [])))))
      rw [← encKl_ag]; rfl
    · obtain ⟨k, o, t, n, s, l, u⟩ := p
      obtain ⟨h1, h2, h3, h4, h5, ⟨h6, h7⟩, _⟩ := hp
      have h8 := okEl_of h6
      unfold reachBytes at h7
      refine ⟨?_, ?_⟩
      · rw [wfK]; exact ⟨⟨h1, h2, h3, h4, h5⟩, h8.1⟩
      · rw [smK]; exact ⟨Nat.le_trans h7 (by decide), h8.2⟩
theorem op_kes (n : Nat) : Opn enc Tryz.prog W base sp hd n 27 (fun l : List KE => [kesA l]) (fun l => (∀ x, x ∈ l → OkE x) ∧ l.length * 40 ≤ 140737488355328) := by
  refine ((Opn.sliceA (t := 27) (sz := 6) (bt := 40) (by kernel_rfl) (by kernel_rfl) (by kernel_rfl) (by decide) (op_ke n)).mono (Nat.le_succ n)).map (fun l => l) (fun l => ?_) (fun l h => ⟨h.1, by have := h.2; unfold reachBytes at this; exact Nat.le_trans this (by decide)⟩)
  show [AV.sl 6 (encKl l) none] = _
  rw [encKl_ag]
theorem op_pl (n : Nat) : Opn enc Tryz.prog W base sp hd n 96 (fun p : PL => [AI p.v, kesA p.ix]) OkP := by
  have hf := OpnF.cons (f := ⟨"V", 3, 0, false, "", "", 0⟩) (Opn.i64 (enc := enc) (P := Tryz.prog) (W := W) (base := base) (sp := sp) (hd := hd) (by kernel_rfl) n) rfl 1 (by kernel_rfl) (OpnF.cons (f := ⟨"Index", 27, 1, false, "", "", 8⟩) (op_kes n) rfl 1 (by kernel_rfl) OpnF.nil)
  exact ((Opn.struct (t := 96) (sz := 2) (fs := #[⟨"V", 3, 0, false, "", "", 0⟩, ⟨"Index", 27, 1, false, "", "", 8⟩]) (by kernel_rfl) (by kernel_rfl) hf (by kernel_rfl)).mono (Nat.le_succ n)).map (fun p => ⟨p.1, p.2.1⟩) (fun p => rfl) (fun p hp => ⟨(okEl_of hp.2.1.1).1, hp.2.1.2, fun x hx => (hp.2.1.1 x hx).2⟩)
theorem op_pls (n : Nat) : Opn enc Tryz.prog W base sp hd n 26 (fun l : List PL => [plsA l]) (fun l => (∀ t, t ∈ l → OkP t) ∧ l.length * 32 ≤ 140737488355328) :=
  ((Opn.sliceA (t := 26) (sz := 2) (bt := 32) (by kernel_rfl) (by kernel_rfl) (by kernel_rfl) (by decide) (op_pl n)).mono (Nat.le_succ n)).map (fun l => l) (fun l => rfl) (fun l h => ⟨h.1, by have := h.2; unfold reachBytes at this; exact Nat.le_trans this (by decide)⟩)
theorem op_prs {n : Nat} (ih : Opn enc Tryz.prog W base sp hd n 31 cellsRl OkR) : Opn enc Tryz.prog W base sp hd n 29 (fun l : List PR => [rsA l]) (fun l => (∀ t, t ∈ l → OkR t) ∧ l.length * 128 ≤ 140737488355328) := by
  refine ((Opn.sliceA (t := 29) (sz := 8) (bt := 128) (by kernel_rfl) (by kernel_rfl) (by kernel_rfl) (by decide) ih).mono (Nat.le_succ n)).map (fun l => l) (fun l => ?_) (fun l h => ⟨h.1, by have := h.2; unfold reachBytes at this; exact Nat.le_trans this (by decide)⟩)
  show [AV.sl 8 (encRl l) none] = _
  rw [encRl_ag]
theorem op_gd {n : Nat} (ih : Opn enc Tryz.prog W base sp hd n 31 cellsRl OkR) : Opn enc Tryz.prog W base sp hd n 98 cellsGl OkG := by
  have hf := OpnF.cons (f := ⟨"Kind", 90, 0, false, "", "", 0⟩) (Opn.u8 (enc := enc) (P := Tryz.prog) (W := W) (base := base) (sp := sp) (hd := hd) (by kernel_rfl) n) rfl 1 (by kernel_rfl) (OpnF.cons (f := ⟨"Cond", 94, 1, false, "", "", 8⟩) (op_ke n) rfl 6 (by kernel_rfl)
    (OpnF.cons (f := ⟨"C", 3, 7, false, "", "", 48⟩) (Opn.i64 (by kernel_rfl) n) rfl 1 (by kernel_rfl) (OpnF.cons (f := ⟨"Item", 25, 8, false, "", "", 56⟩) (Opn.u8 (by kernel_rfl) n) rfl 1 (by kernel_rfl)
    (OpnF.cons (f := ⟨"To", 96, 9, false, "", "", 64⟩) (op_pl n) rfl 2 (by kernel_rfl) (OpnF.cons (f := ⟨"Time", 94, 11, false, "", "", 96⟩) (op_ke n) rfl 6 (by kernel_rfl)
    (OpnF.cons (f := ⟨"Body", 29, 17, false, "", "", 136⟩) (op_prs ih) rfl 1 (by kernel_rfl) OpnF.nil))))))
  refine ((Opn.struct (t := 98) (sz := 18) (fs := #[⟨"Kind", 90, 0, false, "", "", 0⟩, ⟨"Cond", 94, 1, false, "", "", 8⟩, ⟨"C", 3, 7, false, "", "", 48⟩, ⟨"Item", 25, 8, false, "", "", 56⟩, ⟨"To", 96, 9, false, "", "", 64⟩, ⟨"Time", 94, 11, false, "", "", 96⟩, ⟨"Body", 29, 17, false, "", "", 136⟩]) (by kernel_rfl) (by kernel_rfl) hf (by kernel_rfl)).mono (Nat.le_succ n)).map (fun p => ⟨p.1, p.2.1, p.2.2.1, p.2.2.2.1, p.2.2.2.2.1, p.2.2.2.2.2.1, p.2.2.2.2.2.2.1⟩) (fun p => rfl) (fun p hp => ?_)
  obtain ⟨h1, h2, h3, h4, h5, h6, ⟨h7, h8⟩, _⟩ := hp
  have h9 := okRl_of h7
  refine ⟨?_, ?_⟩
  · rw [wfG]; exact ⟨⟨h2.1, h6.1, h5.1⟩, h9.1⟩
  · rw [smG]; exact ⟨⟨h2.2, h6.2, h5.2, h8⟩, h9.2⟩
theorem op_gds {n : Nat} (ih : Opn enc Tryz.prog W base sp hd n 31 cellsRl OkR) : Opn enc Tryz.prog W base sp hd n 28 (fun l : List GD => [gsA l]) (fun l => (∀ t, t ∈ l → OkG t) ∧ l.length * 160 ≤ 140737488355328) := by
  refine ((Opn.sliceA (t := 28) (sz := 18) (bt := 160) (by kernel_rfl) (by kernel_rfl) (by kernel_rfl) (by decide) (op_gd ih)).mono (Nat.le_succ n)).map (fun l => l) (fun l => ?_) (fun l h => ⟨h.1, by have := h.2; unfold reachBytes at this; exact Nat.le_trans this (by decide)⟩)
  show [AV.sl 18 (encGl l) none] = _
  rw [encGl_ag]
theorem op_pr : ∀ n, Opn enc Tryz.prog W base sp hd n 31 cellsRl OkR
  | 0 => Opn.zero
  | n + 1 => by
    have ih := op_pr n
    have hf := OpnF.cons (f := ⟨"Kind", 24, 0, false, "", "", 0⟩) (Opn.u8 (enc := enc) (P := Tryz.prog) (W := W) (base := base) (sp := sp) (hd := hd) (by kernel_rfl) n) rfl 1 (by kernel_rfl) (OpnF.cons (f := ⟨"C", 3, 1, false, "", "", 8⟩) (Opn.i64 (by kernel_rfl) n) rfl 1 (by kernel_rfl)
      (OpnF.cons (f := ⟨"V", 3, 2, false, "", "", 16⟩) (Opn.i64 (by kernel_rfl) n) rfl 1 (by kernel_rfl) (OpnF.cons (f := ⟨"Item", 25, 3, false, "", "", 24⟩) (Opn.u8 (by kernel_rfl) n) rfl 1 (by kernel_rfl)
      (OpnF.cons (f := ⟨"To", 26, 4, false, "", "", 32⟩) (op_pls n) rfl 1 (by kernel_rfl) (OpnF.cons (f := ⟨"E", 27, 5, false, "", "", 56⟩) (op_kes n) rfl 1 (by kernel_rfl)
      (OpnF.cons (f := ⟨"Guards", 28, 6, false, "", "", 80⟩) (op_gds ih) rfl 1 (by kernel_rfl) (OpnF.cons (f := ⟨"L", 29, 7, false, "", "", 104⟩) (op_prs ih) rfl 1 (by kernel_rfl) OpnF.nil)))))))
    refine (Opn.struct (t := 31) (sz := 8) (fs := #[⟨"Kind", 24, 0, false, "", "", 0⟩, ⟨"C", 3, 1, false, "", "", 8⟩, ⟨"V", 3, 2, false, "", "", 16⟩, ⟨"Item", 25, 3, false, "", "", 24⟩, ⟨"To", 26, 4, false, "", "", 32⟩, ⟨"E", 27, 5, false, "", "", 56⟩, ⟨"Guards", 28, 6, false, "", "", 80⟩, ⟨"L", 29, 7, false, "", "", 104⟩]) (by kernel_rfl) (by kernel_rfl) hf (by kernel_rfl)).map (fun p => ⟨p.1, p.2.1, p.2.2.1, p.2.2.2.1, p.2.2.2.2.1, p.2.2.2.2.2.1, p.2.2.2.2.2.2.1, p.2.2.2.2.2.2.2.1⟩) (fun p => rfl) (fun p hp => ?_)
    obtain ⟨h1, h2, h3, h4, ⟨h5, h5'⟩, ⟨h6, h6'⟩, ⟨h7, h7'⟩, ⟨h8, h8'⟩, _⟩ := hp
    have h9 := okRl_of h8
    have h10 := okGl_of h7
    refine ⟨?_, ?_⟩
    · rw [wfR]; exact ⟨⟨fun t ht => (h5 t ht).1, (okEl_of h6).1, by omega, by omega, by omega⟩, h10.1, h9.1⟩
    · rw [smR]; exact ⟨⟨fun t ht => (h5 t ht).2, fun x hx => (h6 x hx).2, h5', h6', h7', h8'⟩, h10.2, h9.2⟩
abbrev QR32 (l : List Int) : Prop := (∀ x, x ∈ l → i32 x) ∧ l.length * 4 ≤ reachBytes
theorem op_row (n : Nat) : Opn enc Tryz.prog W base sp hd (n + 1) 35 (fun l => [rowA l]) QR32 :=
  Opn.slice1 (bt := 4) (by kernel_rfl) (by kernel_rfl) (by kernel_rfl) (Opn.i32 (t := 21) (by kernel_rfl) n)
theorem op_rows (n : Nat) : Opn enc Tryz.prog W base sp hd (n + 2) 37 (fun l => [rowsA l]) (fun l => (∀ r, r ∈ l → QR32 r) ∧ l.length * 24 ≤ reachBytes) :=
  Opn.slice1 (bt := 24) (by kernel_rfl) (by kernel_rfl) (by kernel_rfl) (op_row n)
abbrev cellsST (s : ST) : List AV := [rowsA s.store, AU8 s.root.kind, AI s.root.c, AI s.root.v, AU8 s.root.item, plsA s.root.to, kesA s.root.e, gsA s.root.gs, rsA s.root.l, rowA s.inn, AI32 s.time]
theorem op_state (n : Nat) : Opn enc Tryz.prog W base sp hd n 39 cellsST SmS := by
  have hf := OpnF.cons (f := ⟨"Store", 37, 0, false, "", "", 0⟩) ((op_rows (enc := enc) (W := W) (base := base) (sp := sp) (hd := hd) n).mono (by omega)) rfl 1 (by kernel_rfl) (OpnF.cons (f := ⟨"Root", 31, 1, false, "", "", 24⟩) (op_pr n) rfl 8 (by kernel_rfl)
    (OpnF.cons (f := ⟨"In", 35, 9, false, "", "", 152⟩) ((op_row n).mono (Nat.le_succ n)) rfl 1 (by kernel_rfl) (OpnF.cons (f := ⟨"Time", 21, 10, false, "", "", 176⟩) (Opn.i32 (by kernel_rfl) n) rfl 1 (by kernel_rfl) OpnF.nil)))
  refine ((Opn.struct (t := 39) (sz := 11) (fs := #[⟨"Store", 37, 0, false, "", "", 0⟩, ⟨"Root", 31, 1, false, "", "", 24⟩, ⟨"In", 35, 9, false, "", "", 152⟩, ⟨"Time", 21, 10, false, "", "", 176⟩]) (by kernel_rfl) (by kernel_rfl) hf (by kernel_rfl)).mono (Nat.le_succ n)).map (fun p => ⟨p.1, p.2.1, p.2.2.1, p.2.2.2.1⟩) (fun p => rfl) (fun p hp => ?_)
  obtain ⟨⟨h1, h1'⟩, h2, ⟨h3, h3'⟩, h4, _⟩ := hp
  unfold reachBytes at *
  refine ⟨by show p.2.2.1.length ≤ _; omega, ⟨by show p.1.length ≤ _; omega, fun r hr => ?_⟩, h2.2⟩
  have := (h1 r hr).2
  unfold reachBytes at this
  omega
theorem argState {v : Value} {d : DataW H} {p : List MemPlace} (hval : Value.okWide Tryz.prog W .any base 39 v) (h : DataW.Trod enc Tryz.prog W 0 (fun _ => true) true 39 v d p) (hw : Wt Tryz.prog 39 d) :
    ∃ s : ST, SmS s ∧ Rp (hOf W) (encST s) v := by
  obtain ⟨s, h1, h2⟩ := arg_struct (fs := #[⟨"Store", 37, 0, false, "", "", 0⟩, ⟨"Root", 31, 1, false, "", "", 24⟩, ⟨"In", 35, 9, false, "", "", 152⟩, ⟨"Time", 21, 10, false, "", "", 176⟩]) (by kernel_rfl) op_state hval h hw
  exact ⟨s, h1, h2⟩
end
end Go.Proofs.YthdgpbgjmbkleaaGreat
