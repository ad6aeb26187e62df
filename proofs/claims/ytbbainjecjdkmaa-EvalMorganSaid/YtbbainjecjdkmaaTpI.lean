/-
  (TpI: every order, and the walk of such a statement.)
-/
import Derived.Test.YtbbainjecjdkmaaTpH
namespace Go.Tp
open Go Go.RowKit
set_option linter.unusedVariables false

theorem go_step {all : Array Oper} {listed : Array Bool} (t fuel : Nat) (hr : Region.ready .any all listed ≠ []) :
    ∃ i t', i ∈ Region.ready .any all listed ∧ Region.linearise.go .any all (fuel + 1) t listed [] = i :: Region.linearise.go .any all fuel t' (listed.setIfInBounds i true) [] := by
  have hlen : 0 < (Region.ready .any all listed).length := List.length_pos_iff.2 hr
  have hlt : t % (Region.ready .any all listed).length < (Region.ready .any all listed).length := Nat.mod_lt _ hlen
  obtain ⟨i, hi⟩ := getElem?_some_of_lt hlt
  refine ⟨i, t / (Region.ready .any all listed).length, List.mem_of_getElem? hi, ?_⟩
  have : Region.linearise.go .any all (fuel + 1) t listed [] = match (Region.ready .any all listed)[t % (Region.ready .any all listed).length]? with
      | some i => Region.linearise.go .any all fuel (t / (Region.ready .any all listed).length) (listed.setIfInBounds i true) [i]
      | none => [].reverse := rfl
  rw [this, hi]
  simp only
  rw [linearise_go_acc]; rfl

theorem getD_set_iff {l : Array Bool} {i j : Nat} (hi : i < l.size) : (l.setIfInBounds i true).getD j false = true ↔ (j = i ∨ l.getD j false = true) := by
  simp only [Array.getD_eq_getD_getElem?, Array.getElem?_setIfInBounds]
  by_cases h : i = j
  · subst h; simp [hi]
  · rw [if_neg h]; constructor
    · intro x; exact .inr x
    · rintro (x | x)
      · exact absurd x.symm h
      · exact x

theorem getD_tf {l : Array Bool} {j : Nat} (hj : j < l.size) : l.getD j true = l.getD j false := by
  simp [Array.getD_eq_getD_getElem?, hj]

theorem ready_some {all : Array Oper} (hback : ∀ (i : Nat) o, all[i]? = some o → ∀ e, e ∈ o.after → Region.binds .any e = true → e.on < i) {listed : Array Bool} (hs : listed.size = all.size) {i : Nat} (hi : i < all.size) (hu : listed.getD i false = false) :
    Region.ready .any all listed ≠ [] := by
  -- the least one that has not been carried out
  obtain ⟨i0, h1, h2, h3⟩ : ∃ i0, i0 < all.size ∧ listed.getD i0 false = false ∧ ∀ j, j < i0 → listed.getD j false = true := by
    induction i using Nat.strongRecOn with
    | _ i ih =>
      by_cases h : ∃ j, j < i ∧ listed.getD j false = false
      · obtain ⟨j, hj, hju⟩ := h
        exact ih j hj (by omega) hju
      · refine ⟨i, hi, hu, fun j hj => ?_⟩
        cases hc : listed.getD j false with
        | true => rfl
        | false => exact absurd ⟨j, hj, hc⟩ h
  have : i0 ∈ Region.ready .any all listed := mem_ready.2 ⟨by rw [getD_tf (by omega)]; exact h2, all[i0], by simp [h1], fun e he hb => h3 _ (hback i0 _ (by simp [h1]) e he hb)⟩
  intro e; rw [e] at this; cases this

structure Done (all : Array Oper) (m : Nat) (π : List Nat) (listed : Array Bool) : Prop where
  size : listed.size = all.size
  un : ∀ i, i < all.size → (listed.getD i false = false ↔ (i ∈ π ∨ m ≤ i))
  down : downClosed all (fun i => listed.getD i false)

theorem Done.step {all : Array Oper} {m : Nat} {π1 π2 : List Nat} {i : Nat} {listed : Array Bool} (d : Done all m (π1 ++ i :: π2) listed) (hn : (π1 ++ i :: π2).Nodup) (hi : i ∈ Region.ready .any all listed) (hm : i < m) (hms : m ≤ all.size) :
    Done all m (π1 ++ π2) (listed.setIfInBounds i true) := by
  have hin : i < all.size := by omega
  obtain ⟨r1, o, ho, r2⟩ := mem_ready.1 hi
  refine ⟨by simp [d.size], fun j hj => ?_, fun j oj hoj hj e he hb => ?_⟩
  · have hx := getD_set_iff (l := listed) (i := i) (j := j) (by rw [d.size]; exact hin)
    have hd := d.un j hj
    have hnn : i ∉ π1 ∧ i ∉ π2 := by
      have := List.nodup_append.1 hn
      refine ⟨fun h => this.2.2 i h i (List.mem_cons_self ..) rfl, (List.nodup_cons.1 this.2.1).1⟩
    constructor
    · intro h
      have h0 : ¬ (j = i ∨ listed.getD j false = true) := fun hc => by rw [hx.2 hc] at h; cases h
      have hji : j ≠ i := fun e => h0 (.inl e)
      have h1 : listed.getD j false = false := by
        cases hc : listed.getD j false with
        | false => rfl
        | true => exact (h0 (.inr hc)).elim
      rcases hd.1 h1 with h2 | h2
      · simp only [List.mem_append, List.mem_cons] at h2 ⊢
        rcases h2 with h2 | h2 | h2
        · exact .inl (.inl h2)
        · exact (hji h2).elim
        · exact .inl (.inr h2)
      · exact .inr h2
    · intro h
      have hji : j ≠ i := by
        rintro rfl
        rcases h with h | h
        · rcases List.mem_append.1 h with h | h
          · exact hnn.1 h
          · exact hnn.2 h
        · omega
      have h1 : listed.getD j false = false := hd.2 (by
        rcases h with h | h
        · left
          simp only [List.mem_append, List.mem_cons] at h ⊢
          rcases h with h | h
          · exact .inl h
          · exact .inr (.inr h)
        · exact .inr h)
      cases hc : (listed.setIfInBounds i true).getD j false with
      | false => rfl
      | true => rcases hx.1 hc with e | e
                · exact (hji e).elim
                · rw [h1] at e; cases e
  · have hx := fun k => getD_set_iff (l := listed) (i := i) (j := k) (by rw [d.size]; exact hin)
    rcases (hx j).1 hj with e' | e'
    · subst e'
      rw [ho] at hoj; injection hoj with hoj; subst hoj
      exact (hx _).2 (.inr (r2 e he hb))
    · exact (hx _).2 (.inr (d.down j oj hoj e' e he hb))

theorem tail_forced {all : Array Oper} (hback : ∀ (i : Nat) o, all[i]? = some o → ∀ e, e ∈ o.after → Region.binds .any e = true → e.on < i) {m : Nat} (hms : m ≤ all.size)
    (htail : ∀ k, k < all.size → m ≤ k → ∀ j, j < k → ancT (masks all.toList []) k j = true) :
    ∀ (fuel t m' : Nat) (listed : Array Bool), m ≤ m' → fuel + m' = all.size → listed.size = all.size → (∀ i, i < all.size → (listed.getD i false = false ↔ m' ≤ i)) → downClosed all (fun i => listed.getD i false) →
      Region.linearise.go .any all fuel t listed [] = List.range' m' fuel
  | 0, t, m', listed, _, _, _, _, _ => rfl
  | fuel + 1, t, m', listed, hm, hf, hs, hu, hd => by
    have hlt : m' < all.size := by omega
    have hne := ready_some hback hs hlt ((hu m' hlt).2 (Nat.le_refl _))
    obtain ⟨i, t', hi, hgo⟩ := go_step t fuel hne
    obtain ⟨r1, o, ho, r2⟩ := mem_ready.1 hi
    have hin : i < all.size := by
      rcases Nat.lt_or_ge i all.size with h | h
      · exact h
      · rw [Array.getElem?_eq_none h] at ho; cases ho
    have hiu : listed.getD i false = false := by rw [← getD_tf (by omega)]; exact r1
    have hge := (hu i hin).1 hiu
    have him : i = m' := by
      rcases Nat.lt_or_ge m' i with h | h
      · have : listed.getD m' false = true := anc_done hd hback i o ho r2 m' (htail i hin (by omega) m' h)
        rw [(hu m' hlt).2 (Nat.le_refl _)] at this; cases this
      · omega
    subst him
    rw [hgo, List.range'_succ]
    congr 1
    refine tail_forced hback hms htail fuel t' (i + 1) _ (by omega) (by omega) (by simp [hs]) (fun j hj => ?_) (fun j oj hoj hj e he hb => ?_)
    · have hx := getD_set_iff (l := listed) (i := i) (j := j) (by omega)
      constructor
      · intro h
        have h0 : ¬ (j = i ∨ listed.getD j false = true) := fun hc => by rw [hx.2 hc] at h; cases h
        have h1 : listed.getD j false = false := by
          cases hc : listed.getD j false with
          | false => rfl
          | true => exact (h0 (.inr hc)).elim
        have := (hu j hj).1 h1
        have hji : j ≠ i := fun e => h0 (.inl e)
        omega
      · intro h
        cases hc : (listed.setIfInBounds i true).getD j false with
        | false => rfl
        | true => rcases hx.1 hc with e | e
                  · omega
                  · rw [(hu j hj).2 (by omega)] at e; cases e
    · have hx := fun k => getD_set_iff (l := listed) (i := i) (j := k) (by omega)
      rcases (hx j).1 hj with e' | e'
      · subst e'
        rw [ho] at hoj; injection hoj with hoj; subst hoj
        exact (hx _).2 (.inr (r2 e he hb))
      · exact (hx _).2 (.inr (hd j oj hoj e' e he hb))

/-- what the check says -/
structure DrawOk (G : Rg) (m : Nat) (π : List Nat) : Prop where
  sel : Region.noSelect G.all = true
  back : ∀ (i : Nat) o, G.all[i]? = some o → ∀ e, e ∈ o.after → Region.binds .any e = true → e.on < i
  len : π.length = m
  le : m ≤ G.all.size
  lt : ∀ i, i ∈ π → i < m
  nodup : π.Nodup
  full : ∀ i, i < m → i ∈ π
  pairs : π.Pairwise fun j i => ancT (masks G.all.toList []) j i = false ∧ (ancT (masks G.all.toList []) i j = true ∨ Swaps G j i)
  tail : ∀ k, k < G.all.size → m ≤ k → ∀ j, j < k → ancT (masks G.all.toList []) k j = true
  pubs : ∀ i, i ∈ π → (G.pubs i).Nodup ∧ ∀ j, j ∈ G.pubs i → j < G.all.size

theorem pairsOk_spec {G : Rg} {tab : List Nat} : ∀ (π : List Nat), π.Nodup → pairsOk G.all tab G.pubs π = true → π.Pairwise fun j i => ancT tab j i = false ∧ (ancT tab i j = true ∨ Swaps G j i)
  | [], _, _ => .nil
  | j :: l, hn, h => by
    obtain ⟨n1, n2⟩ := List.nodup_cons.1 hn
    simp only [pairsOk, Bool.and_eq_true, List.all_eq_true] at h
    refine .cons (fun i hi => ?_) (pairsOk_spec l n2 h.2)
    have hp := h.1 i hi
    simp only [pairOk, Bool.and_eq_true, Bool.not_eq_true', Bool.or_eq_true] at hp
    refine ⟨hp.1, hp.2.imp id fun hq => ?_⟩
    split at hq
    · rename_i oj hoj
      split at hq
      · rename_i oi hoi
        simp only [Bool.and_eq_true, Bool.not_eq_true', List.all_eq_true] at hq
        obtain ⟨⟨⟨⟨q1, q2⟩, q3⟩, q4⟩, q5⟩ := hq
        rw [nthL_eq, Array.getElem?_toList] at hoj hoi
        refine ⟨fun e => n1 (e ▸ hi), fun oi' oj' h1 h2 => ?_, fun hm => (by rw [memB_iff.2 hm] at q3; cases q3), fun hm => (by rw [memB_iff.2 hm] at q4; cases q4), fun k hk hm => ?_⟩
        · rw [hoi] at h1; rw [hoj] at h2
          injection h1 with h1; injection h2 with h2
          subst h1; subst h2
          exact ⟨q1, q2⟩
        · have := q5 k hk; rw [memB_iff.2 hm] at this; cases this
      · cases hq
    · cases hq

theorem drawOk_spec {G : Rg} {m : Nat} {π : List Nat} (h : drawOk G.all m π G.pubs = true) : DrawOk G m π := by
  unfold drawOk at h
  rw [forceL_eq] at h
  simp only [Bool.and_eq_true, List.all_eq_true] at h
  obtain ⟨⟨⟨⟨⟨⟨⟨⟨⟨h1, h2⟩, h3⟩, h4⟩, h5⟩, h6⟩, hfull⟩, h7⟩, h8⟩, h9⟩ := h
  have hb := backOk_spec _ _ h2
  refine ⟨h1, fun i o ho e he hbe => ?_, Nat.eq_of_beq_eq_true h3, Nat.le_of_ble_eq_true h4, fun i hi => by simpa [Nat.blt_eq] using h5 i hi, nodupB_spec h6, fun i hi => memB_iff.1 (hfull i (by simpa using hi)), pairsOk_spec π (nodupB_spec h6) h7, fun k hk hmk j hj => ?_, fun i hi => ?_⟩
  · have := hb i o (by rw [Array.getElem?_toList]; exact ho) e he hbe
    omega
  · simp only [tailOk, List.all_eq_true, List.mem_range, Bool.or_eq_true] at h8
    rcases h8 k hk with e | e
    · rw [Nat.blt_eq] at e; omega
    · exact e j hj
  · have := h9 i hi
    exact ⟨nodupB_spec this.1, fun j hj => by simpa [Nat.blt_eq] using this.2 j hj⟩

/-- what V says of one state -/
def Runs (C : Cfg) (todo : List Item) (a : Act) (w : World) (b : Frame) (cs : List Frame) : Prop :=
  ∃ v w' fr h' L', C.R v h' L' ∧ St C.w0 h' L' w' ∧ Steps C.P (lone (b.at a todo) cs w) (lone fr cs w') ∧ fr.fn = C.f ∧ fr.leaving C.P w' (.returned v)

theorem Rg.run (G : Rg) {m : Nat} {π0 : List Nat} (ok : DrawOk G m π0) {k : List It} (hk : itsOk k) {b : Frame} {cs : List Frame} (hbf : b.fn = G.C.f) (hbk : b.kind = .normal)
    (hFin : ∀ a h E, G.Fin a h E → ∃ e', Ag G.C.n e' a ∧ V G.C (.ops G.all (G.all.toList.drop m) :: k) e' h (Slots.list G.all.size E ++ G.L0)) :
    ∀ (len : Nat) (π : List Nat), π.length = len → π.Sublist π0 → ∀ (listed : Array Bool) (t : Nat) (a : Act) (h : GH) (E : Slots) (w : World), Done G.all m π listed → G.W π a h E → G.live h E w →
      Runs G.C (.inRegion G.all (Region.linearise.go .any G.all (len + (G.all.size - m)) t listed []) :: items k) a w b cs
  | 0, π, hlen, hsub, listed, t, a, h, E, w, d, hW, s => by
    have hπ : π = [] := List.length_eq_zero_iff.1 hlen
    subst hπ
    rw [Nat.zero_add, tail_forced ok.back ok.le ok.tail (G.all.size - m) t m listed (Nat.le_refl _) (by have := ok.le; omega) d.size (fun i hi => by have := d.un i hi; simpa using this) d.down]
    obtain ⟨e', g, hv⟩ := hFin a h E hW
    have hok : itsOk (.ops G.all (G.all.toList.drop m) :: k) := itsOk_ops (pre := G.all.toList.take m) (by simp) hk
    obtain ⟨v, w', fr, h', L', r1, r2, r3, r4, r5⟩ := hv hok a w b cs g s hbf hbk
    refine ⟨v, w', fr, h', L', r1, r2, ?_, r4, r5⟩
    have e : items (.ops G.all (G.all.toList.drop m) :: k) = .inRegion G.all (List.range' m (G.all.size - m)) :: items k := by
      simp only [items, List.map_cons, It.item, List.length_drop, Array.length_toList]
      rw [show G.all.size - (G.all.size - m) = m by have := ok.le; omega]
    rw [e] at r3
    exact r3
  | len + 1, π, hlen, hsub, listed, t, a, h, E, w, d, hW, s => by
    -- something is ready, and it is one of ours
    have hpos : ∃ i, i ∈ π := by
      cases π with
      | nil => simp at hlen
      | cons x l => exact ⟨x, List.mem_cons_self ..⟩
    obtain ⟨i1, hi1⟩ := hpos
    have hi1m : i1 < m := ok.lt i1 (hsub.subset hi1)
    have hne := ready_some ok.back d.size (i := i1) (by have := ok.le; omega) ((d.un i1 (by have := ok.le; omega)).2 (.inl hi1))
    rw [show len + 1 + (G.all.size - m) = (len + (G.all.size - m)) + 1 by omega]
    obtain ⟨i, t', hi, hgo⟩ := go_step t (len + (G.all.size - m)) hne
    rw [hgo]
    obtain ⟨r1, o, ho, r2⟩ := mem_ready.1 hi
    have hin : i < G.all.size := by
      rcases Nat.lt_or_ge i G.all.size with h | h
      · exact h
      · rw [Array.getElem?_eq_none h] at ho; cases ho
    have hiu : listed.getD i false = false := by rw [← getD_tf (by rw [d.size]; exact hin)]; exact r1
    have hanc : ∀ j, ancT (masks G.all.toList []) i j = true → listed.getD j false = true := fun j hj => anc_done d.down ok.back i o ho r2 j hj
    have him : i ∈ π := by
      rcases (d.un i hin).1 hiu with h | h
      · exact h
      · have := hanc i1 (ok.tail i hin h i1 (by omega))
        rw [(d.un i1 (by have := ok.le; omega)).2 (.inl hi1)] at this; cases this
    obtain ⟨π1, π2, hsplit⟩ := List.append_of_mem him
    subst hsplit
    have hpw := ok.pairs.sublist hsub
    have hnd := ok.nodup.sublist hsub
    have hsw : ∀ j, j ∈ π1 → Swaps G j i := fun j hj => by
      obtain ⟨_, q⟩ := (List.pairwise_append.1 hpw).2.2 j hj i (List.mem_cons_self ..)
      rcases q with q | q
      · have := hanc j q
        have hjm : j ∈ π1 ++ i :: π2 := List.mem_append_left _ hj
        rw [(d.un j (by have := ok.lt j (hsub.subset hjm); have := ok.le; omega)).2 (.inl hjm)] at this; cases this
      · exact q
    have z : G.Rz h := ⟨w, s.sub (List.sublist_append_right _ _)⟩
    have node := Rg.pull ok.sel ho π1 a h E z hsw hW
    have hmi : i < m := ok.lt i (hsub.subset him)
    have d' := d.step hnd hi hmi ok.le
    have hsub' : (π1 ++ π2).Sublist π0 := ((List.Sublist.refl π1).append (List.sublist_cons_self i π2)).trans hsub
    have hlen' : (π1 ++ π2).length = len := by simp at hlen ⊢; omega
    obtain ⟨n1, n2⟩ := Rg.Node.sound hin (ok.pubs i (hsub.subset him)) node s
    by_cases hon : onNow G.all o a = true
    · obtain ⟨a', w', ⟨h', E', s', _, hW'⟩, st⟩ := op_run (P := G.C.P) (b := b) (k := items k) (cs := cs) (rest := Region.linearise.go .any G.all (len + (G.all.size - m)) t' (listed.setIfInBounds i true) []) ho hon (n1 hon)
      obtain ⟨v, w'', fr, h'', L'', q1, q2, q3, q4, q5⟩ := Rg.run G ok hk hbf hbk hFin len (π1 ++ π2) hlen' hsub' _ t' a' h' E' w' d' hW' s'
      exact ⟨v, w'', fr, h'', L'', q1, q2, st.trans q3, q4, q5⟩
    · have hon : onNow G.all o a = false := by simpa using hon
      have hW' := n2 hon
      obtain ⟨v, w'', fr, h'', L'', q1, q2, q3, q4, q5⟩ := Rg.run G ok hk hbf hbk hFin len (π1 ++ π2) hlen' hsub' _ t' _ h E w d' hW' s
      refine ⟨v, w'', fr, h'', L'', q1, q2, ?_, q4, q5⟩
      have hs := step_op_skip (P := G.C.P) (b := b) (a := a) (k := items k) (cs := cs) (w := w) (ops := G.all) (i := i) (rest := Region.linearise.go .any G.all (len + (G.all.size - m)) t' (listed.setIfInBounds i true) []) (by simp only [ho, Option.map_some, Option.getD_some]; exact hon)
      rw [ho] at hs
      exact .head hs q3

variable {C : Cfg} {k : List It} {e : Env} {h : GH} {L : List Ent}

abbrev drawRg (C : Cfg) (all : Array Oper) (L : List Ent) (pubs : Nat → List Nat) (Y : Nat → List Value → Value → GH → Prop) (m : Nat) (k : List It) : Rg :=
  ⟨C, all, L, pubs, Y, fun a h E => ∃ e', Ag C.n e' a ∧ V C (.ops all (all.toList.drop m) :: k) e' h (Slots.list all.size E ++ L)⟩

/-- the walk of such a statement, over symbolic slots -/
def WE (G : Rg) (π : List Nat) (e : Env) (h : GH) (E : Slots) : Prop := ∀ a, Ag G.C.n e a → G.W π a h E

/-- **a statement whose order is open**: the first m operations in the order π, then the others as they stand -/
theorem V.draw {all : Array Oper} {id : Nat} (m : Nat) (π : List Nat) (pubs : Nat → List Nat) (Y : Nat → List Value → Value → GH → Prop) (hm : C.P.follows .mixedOrders = true) (hok : drawOk all m π pubs = true)
    (hv : WE (drawRg C all L pubs Y m k) π e h Slots.none) : V C (.code (.region id all true) :: k) e h L := by
  intro ho a w b cs g s hf hk
  have ok : DrawOk (drawRg C all L pubs Y m k) m π := drawOk_spec hok
  have hW := hv a g
  have s' : (drawRg C all L pubs Y m k).live h Slots.none { w with drawn := w.drawn + 1 } := by
    show St C.w0 h (Slots.list all.size Slots.none ++ L) _
    rw [Slots.list_none]; exact s.drew
  have hd : Done all m π (Array.replicate all.size false) := by
    refine ⟨by simp, fun i hi => ⟨fun _ => ?_, fun _ => by simp [hi]⟩, fun i o ho hi => ?_⟩
    rotate_left
    · have : (Array.replicate all.size false).getD i false = false := by
        simp only [Array.getD_eq_getD_getElem?, Array.getElem?_replicate]; split <;> rfl
      have hi' : (Array.replicate all.size false).getD i false = true := hi
      rw [this] at hi'; cases hi'
    by_cases him : i < m
    · left; exact ok.full i him
    · right; omega
  have hr := Rg.run (drawRg C all L pubs Y m k) ok (itsOk_tail ho) (cs := cs) hf hk (fun a h E x => x) m π ok.len (List.Sublist.refl _) (Array.replicate all.size false) (w.tape w.drawn (.order b.fn id)) a h Slots.none _ hd hW s'
  obtain ⟨v, w'', fr, h'', L'', q1, q2, q3, q4, q5⟩ := hr
  refine ⟨v, w'', fr, h'', L'', q1, q2, ?_, q4, q5⟩
  have hstep := step_region_draw (P := C.P) (b := b) (a := a) (k := items k) (cs := cs) (w := w) (ops := all) (id := id)
  have hsch : Region.schedule (C.P.follows .mixedOrders) all (w.tape w.drawn (.order b.fn id)) = Region.linearise.go .any all (m + (all.size - m)) (w.tape w.drawn (.order b.fn id)) (Array.replicate all.size false) [] := by
    rw [show m + (all.size - m) = all.size by have : m ≤ all.size := ok.le; omega]
    simp only [Region.schedule, hm, Bool.true_or, if_true]
    rfl
  rw [hsch] at hstep
  exact .head hstep q3

#print axioms V.draw
end Go.Tp
