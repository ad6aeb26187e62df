/-
  (TqO: what an argument reads as, as data.)
-/
import Derived.Test.YtbbainjecjdkmaaTqG
import Derived.Test.YtbbainjecjdkmaaTpW
namespace Go.Tp
open Go Go.RowKit
set_option linter.unusedVariables false
set_option linter.unusedSimpArgs false

/-- no slice or text in it is longer than the form bears -/
abbrev Wt {H : Type} (P : Program) (t : TypeId) (d : DataW H) : Prop := (DataW.weights P t d).all (· ≤ reachBytes) = true
theorem Wt_all {H : Type} {P : Program} {e : TypeId} : ∀ {l : List (DataW H)}, (DataW.weightsAll P e l).all (· ≤ reachBytes) = true → ∀ d, d ∈ l → Wt P e d
  | [], _, d, hd => by cases hd
  | x :: r, h, d, hd => by
    simp only [DataW.weightsAll, List.all_append, Bool.and_eq_true] at h
    rcases List.mem_cons.1 hd with rfl | hd
    · exact h.1
    · exact Wt_all h.2 d hd
theorem Wt_each {H : Type} {P : Program} : ∀ {ts : List TypeId} {l : List (DataW H)}, (DataW.weightsEach P ts l).all (· ≤ reachBytes) = true → ∀ (i : Nat) t d, ts[i]? = some t → l[i]? = some d → Wt P t d
  | [], _, _, i, t, d, ht, _ => by simp at ht
  | _ :: _, [], _, i, t, d, _, hd => by simp at hd
  | u :: ts, x :: r, h, i, t, d, ht, hd => by
    simp only [DataW.weightsEach, List.all_append, Bool.and_eq_true] at h
    cases i with
    | zero => simp at ht hd; subst ht; subst hd; exact h.1
    | succ i => exact Wt_each h.2 i t d (by simpa using ht) (by simpa using hd)

section
variable {H : Type} {enc : TypeId × Value → H} {P : Program} {W : World} {base : Nat} {sp : Nat → Bool} {hd : Bool}
theorem hOf_cells {b o : Nat} {cs : List Value} (hc : ∀ i, i < cs.length → W.cell? ⟨b, o + i, none⟩ = cs[i]?) (h1 : allOne cs = true) : atH (hOf W) b o cs := hOf_at hc (allOne_mem h1)
theorem RpE_build {α : Type} (en : α → AV) (Q : α → Prop) {h : GH} {sz b : Nat} : ∀ (m o : Nat), (∀ i, i < m → ∃ a z, Q a ∧ Rp h (en a) z ∧ (cellsL z).length = sz ∧ atH h b (o + i * sz) (cellsL z)) →
    ∃ l : List α, l.length = m ∧ (∀ a, a ∈ l → Q a) ∧ RpE h sz (l.map en) b o
  | 0, o, _ => ⟨[], rfl, fun a ha => (by cases ha), RpE_nil⟩
  | m + 1, o, hx => by
    obtain ⟨a, z, q, r, hl, ha⟩ := hx 0 (by omega)
    obtain ⟨l, h1, h2, h3⟩ := RpE_build en Q m (o + sz) (fun i hi => by
      obtain ⟨a, z, q, r, hl, ha⟩ := hx (i + 1) (by omega)
      exact ⟨a, z, q, r, hl, by rw [show o + sz + i * sz = o + (i + 1) * sz by rw [Nat.succ_mul]; omega]; exact ha⟩)
    refine ⟨a :: l, by simp [h1], fun y hy => ?_, ?_⟩
    · rcases List.mem_cons.1 hy with rfl | hy
      · exact q
      · exact h2 y hy
    · rw [List.map_cons, RpE_cons]
      exact ⟨⟨z, r, hl, by simpa using ha⟩, h3⟩
theorem open_sl {α : Type} (en : α → AV) (Q : α → Prop) {t e : TypeId} {sz bt fuel : Nat} {cs : List Value} {x : DataW H × List MemPlace} (ht : P.underlying t = some (.slice e)) (hsz : P.cellsOf e = sz) (hbt : P.bytesOf e = bt) (h0 : 0 < sz)
    (hel : ∀ m, m < fuel → ∀ cs y, cs.length = sz → DataW.trod enc P W base sp hd m e cs = some y → Wt P e y.1 → ∃ a z, Q a ∧ Rp (hOf W) (en a) z ∧ cellsL z = cs ∧ allOne cs = true)
    (h : DataW.trod enc P W base sp hd fuel t cs = some x) (hw : Wt P t x.1) : ∃ (v : Value) (l : List α), cs = [v] ∧ (∀ a, a ∈ l → Q a) ∧ Rp (hOf W) (.sl sz (l.map en) none) v ∧ l.length * bt ≤ reachBytes := by
  rcases DataW.trod_slice ht h with ⟨rfl, _⟩ | ⟨a, len, cap, elems, rest, n, rfl, rfl, hx, hb, hl, hc, hlen, hall, _⟩
  · exact ⟨_, [], rfl, fun a ha => (by cases ha), nil_rp sz, by simp⟩
  · rw [hx] at hw
    simp only [Wt, DataW.weights, ht, List.all_cons, List.all_append, Bool.and_eq_true, decide_eq_true_eq, List.length_map] at hw
    obtain ⟨hw1, hw2, _⟩ := hw
    have hbd : len * bt ≤ reachBytes := by rw [hbt] at hw1; rw [← hlen]; exact Nat.le_trans (Nat.mul_le_mul_right _ (by omega)) hw1
    have key : ∀ i, i < len → ∃ (cs : List Value) (y : DataW H × List MemPlace), W.cells? base (a.add (i * sz)) sz = some cs ∧ DataW.trod enc P W base sp hd n e cs = some y ∧ Wt P e y.1 := fun i hi => by
      have := hall i hi
      rw [hsz, List.getElem?_eq_getElem (by omega)] at this
      obtain ⟨cs', k1, k2⟩ := Option.bind_eq_some_iff.1 this
      exact ⟨cs', _, k1, k2, Wt_all hw2 _ (List.mem_map_of_mem (List.getElem_mem ..))⟩
    by_cases hz : len = 0
    · subst hz
      refine ⟨_, [], rfl, fun a ha => (by cases ha), ?_, by simp⟩
      rw [Rp_sl]; exact ⟨some a, cap, rfl, Nat.zero_le _, trivial, fun hn => (hn rfl).elim⟩
    · obtain ⟨b, off, spot⟩ := a
      have hspot : spot = none := by
        obtain ⟨cs', y, k1, k2, _⟩ := key 0 (by omega)
        obtain ⟨_, k3, k4⟩ := World.cells?_some k1
        have := k4 0 (by omega)
        rw [List.getElem?_eq_getElem (by omega)] at this
        simpa [Addr.add] using World.cell?_spot this
      subst hspot
      obtain ⟨l, h1, h2, h3⟩ := RpE_build (h := hOf W) (b := b) (sz := sz) en Q len off (fun i hi => by
        obtain ⟨cs', y, k1, k2, k5⟩ := key i hi
        obtain ⟨_, k3, k4⟩ := World.cells?_some k1
        obtain ⟨a, z, q, r, e1, e2⟩ := hel n (by omega) cs' y k3 k2 k5
        subst e1
        refine ⟨a, z, q, r, k3, hOf_cells (fun j hj => ?_) e2⟩
        have := k4 j (by omega)
        rwa [add_norm, add_norm] at this)
      refine ⟨_, l, rfl, h2, ?_, by rw [h1]; exact hbd⟩
      rw [Rp_sl, List.length_map]
      exact ⟨some ⟨b, off, none⟩, cap, by rw [h1], by rw [h1]; exact hl, trivial, fun _ => ⟨b, off, rfl, h3⟩⟩
theorem open_st {t : TypeId} {fs : Array Field} {n fuel : Nat} {cs : List Value} {x : DataW H × List MemPlace} (ht : P.underlying t = some (.struct fs)) (hn : P.cellsOf t = n)
    (h : DataW.trod enc P W base sp hd fuel t cs = some x) (hw : Wt P t x.1) : ∃ m, m < fuel ∧ cs.length = n ∧
      ∀ (i : Nat) (f : Field), fs[i]? = some f → ∃ y, DataW.trod enc P W base sp hd m f.type ((cs.drop f.offset).take (P.cellsOf f.type)) = some y ∧ Wt P f.type y.1 := by
  obtain ⟨xs, m, rfl, rfl, hlen, hxs, hf⟩ := DataW.trod_struct ht h
  refine ⟨m, Nat.lt_succ_self _, by rw [hlen, hn], fun i f hi => ?_⟩
  have h1 := hf i f hi
  have hlt : i < xs.length := by
    rw [hxs]
    rcases Nat.lt_or_ge i fs.size with h | h
    · exact h
    · rw [Array.getElem?_eq_none h] at hi; cases hi
  rw [List.getElem?_eq_getElem hlt] at h1
  refine ⟨_, h1, ?_⟩
  simp only [Wt, DataW.weights, ht] at hw
  refine Wt_each hw i f.type _ ?_ ?_
  · rw [List.getElem?_map, Array.getElem?_toList, hi]; rfl
  · rw [List.getElem?_map, List.getElem?_eq_getElem hlt]; rfl
theorem open_i32 {t : TypeId} {fuel : Nat} {cs : List Value} {x : DataW H × List MemPlace} (ht : P.underlying t = some (.int .i32)) (h : DataW.trod enc P W base sp hd fuel t cs = some x) : ∃ n, cs = [.int .i32 n] ∧ i32 n := by
  obtain ⟨n, h1, _, h2⟩ := DataW.trod_int ht h; exact ⟨n, h1, wf_i32 h2⟩
theorem open_i64 {t : TypeId} {fuel : Nat} {cs : List Value} {x : DataW H × List MemPlace} (ht : P.underlying t = some (.int .i64)) (h : DataW.trod enc P W base sp hd fuel t cs = some x) : ∃ n, cs = [.int .i64 n] ∧ i64 n := by
  obtain ⟨n, h1, _, h2⟩ := DataW.trod_int ht h; exact ⟨n, h1, wf_i64 h2⟩
theorem open_u8 {t : TypeId} {fuel : Nat} {cs : List Value} {x : DataW H × List MemPlace} (ht : P.underlying t = some (.int .u8)) (h : DataW.trod enc P W base sp hd fuel t cs = some x) : ∃ n, cs = [.int .u8 n] ∧ u8 n := by
  obtain ⟨n, h1, _, h2⟩ := DataW.trod_int ht h; exact ⟨n, h1, wf_u8 h2⟩

/-- from a function that answers true to what the statement asks -/
theorem pure_true {f : FuncId} {fn : Func} {s : ChangeSpec} {gs' : Ua} {args : List Value} {as : List AV} {ds gs : List (DataW H)} {before : List MemPlace} {tb : TypeId}
    (hl : laidOutB P = true) (hr : (fn.params.toList.all fun t => P.readableRec t && decide (t < P.types.size)) = true) (hrt : fn.resultTypes = #[tb]) (hb : P.underlying tb = some .bool) (hv : s.vars = [])
    (hs : s.fn H (ds ++ gs) = { results := [.lit (.bool true)], args := ds }) (hW : DataW.Whole enc P fn.params.toList s.vars false W args ds gs before)
    (hg : GsOk (hOf W) gs') (ha : RpC (hOf W) as args) (hf : Pure P gs' f as (.v (.bool true))) :
    Calls P f ⟨args⟩ W fun e W' => ∃ v, e = .returned v ∧ s.post enc P fn false true false false W ⟨args⟩ v W' := by
  refine calls_true (h := hOf W) hl hr hrt hb hv hs hW (hOf_st W) ?_
  refine (hf W (hOf W) args [] [] hg ha rfl).mono ?_
  rintro v h' L' ⟨x, Λ', L1, ⟨rfl, rfl⟩, e2, e3, e4, rfl⟩
  rw [Rp_v] at e2
  have e4 : L1 = [] := e4
  subst e4
  exact ⟨rfl, e3, e2.1⟩
end
end Go.Tp
