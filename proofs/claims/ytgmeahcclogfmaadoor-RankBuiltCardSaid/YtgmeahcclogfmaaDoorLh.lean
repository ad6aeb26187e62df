/-
  This project's own program logic, part Lh (Tq6 Tq7): generic texts, for any program. Conditions: as each theorem says.
-/
import Derived.Test.YtgmeahcclogfmaaDoorLg
/-! Tq6 -/
namespace Go.Tp
open Go Go.RowKit
set_option linter.unusedVariables false
set_option linter.unusedSimpArgs false
section
variable {C : Cfg} {k : List It} {e : Env} {h : GH} {L : List Ent}
theorem V.drawO {all : Array Oper} {id : Nat} (j : Nat) {x : Ent} (m : Nat) (π : List Nat) (pubs : Nat → List Nat) (Y : Nat → List Value → Value → GH → Prop) (hj : j < all.size) (hm : C.P.follows .mixedOrders = true) (hok : drawOkN all m π pubs = true)
    (hv : WE (drawRg C all L pubs Y m k) π e h (Slots.none.set j (some x))) : V C (.code (.region id all true) :: k) e h (x :: L) := by
  intro ho a w b cs g s hf hk
  have hok1 := drawOkN_spec hok
  have hnd := hok1.2
  have ok : DrawOk (drawRg C all L pubs Y m k) m π := drawOk_spec hok1.1
  have hW := hv a g
  have hp : (Slots.list all.size (Slots.none.set j (some x))).Perm [x] := by
    have h1 := Slots.list_put hj Slots.none x
    rw [show Slots.none.set j Option.none = Slots.none by funext i; simp [Slots.set, Slots.none], Slots.list_none] at h1
    exact h1
  have s' : (drawRg C all L pubs Y m k).live h (Slots.none.set j (some x)) { w with drawn := w.drawn + 1 } := by
    show St C.w0 h (Slots.list all.size (Slots.none.set j (some x)) ++ L) _
    exact s.drew.perm (hp.append_right L).symm
  have hd : Done all m π (Array.replicate all.size false) := by
    refine ⟨by simp, fun i hi => ⟨fun _ => ?_, fun _ => by simp [hi]⟩, fun i o ho hi => ?_⟩
    rotate_left
    · have : (Array.replicate all.size false).getD i false = false := by
        simp only [Array.getD_eq_getD_getElem?, Array.getElem?_replicate]; split <;> rfl
      have hi' : (Array.replicate all.size false).getD i false = true := hi
      rw [this] at hi'; cases hi'
    by_cases him : i < m
    · left; exact ok.full i him
    · right; omega
  have hr := Rg.run (drawRg C all L pubs Y m k) ok (itsOk_tail ho) (cs := cs) hnd hf hk (fun a h E x => x) m π ok.len (List.Sublist.refl _) (Array.replicate all.size false) (w.tape w.drawn (.order b.fn id)) a h (Slots.none.set j (some x)) _ hd hW s'
  obtain ⟨v, w'', fr, h'', L'', q1, q2, q3, q4, q5⟩ := hr
  refine ⟨v, w'', fr, h'', L'', q1, q2, ?_, q4, q5⟩
  have hstep := stepR_region_draw (P := C.P) (b := b) (a := a) (k := items k) (cs := cs) (w := w) (ops := all) (id := id)
  have hsch : Region.schedule (C.P.follows .mixedOrders) all (w.tape w.drawn (.order b.fn id)) = Region.linearise.go .any all (m + (all.size - m)) (w.tape w.drawn (.order b.fn id)) (Array.replicate all.size false) [] := by
    rw [show m + (all.size - m) = all.size by have : m ≤ all.size := ok.le; omega]
    simp only [Region.schedule, hm, Bool.true_or, if_true]
    rfl
  rw [hsch] at hstep
  exact .head hstep q3
end
section
variable {K : AC} {all : Array Oper} {k : List It} {E : AEnv} {Λ Λ' : List AEnt}
theorem A.drawO {id : Nat} (t j : Nat) {b : Nat} {x : AV} (m : Nat) (π : List Nat) (pubs : Nat → List Nat) (Y : Ua) (hx : lookA E.us t = some (.v (.pointer (some ⟨b, 0, none⟩)))) [i : AAt Λ b x] [o : AOut Λ (.box b x) Λ'] (hj : j < lenO all.toList) (hm : K.P.follows .mixedOrders = true) (hok : drawOkN all m π pubs = true)
    (hv : WA K all m k pubs Y π E Λ' [(j, .box b x)]) : A K (.code (.region id all true) :: k) E Λ :=
  ⟨fun h e L hl r q => by
    obtain ⟨L', q1, q2⟩ := q.perm o.perm
    obtain ⟨M, L2, rfl, ⟨z, q3, rfl⟩, q4⟩ := q1
    refine V.perm (q2.append_right _) (V.drawO (C := K.cfg) j m π pubs (YA Y) (by rw [lenO_eq] at hj; simpa using hj) hm hok (hv.run h e L2 _ hl r q4 ?_))
    exact RpD.set (D := []) (Es := Slots.none) (fun i => rfl) ⟨z, q3, rfl⟩⟩
end
end Go.Tp
/-! Tq7 -/
namespace Go.Tp
open Go Go.RowKit
set_option linter.unusedVariables false
set_option linter.unusedSimpArgs false
section
variable {K : AC} {all : Array Oper} {m : Nat} {k : List It} {pubs : Nat → List Nat} {Y : Ua} {π : List Nat} {E : AEnv} {Λ : List AEnt} {D : Da}
theorem A.drawT {id : Nat} (j sz : Nat) (z : Value) {Λ' : List AEnt} (m : Nat) (π : List Nat) (pubs : Nat → List Nat) (Y : Ua) [o : AOut Λ (.tail sz z) Λ'] (hj : j < lenO all.toList) (hm : K.P.follows .mixedOrders = true) (hok : drawOkN all m π pubs = true)
    (hv : WA K all m k pubs Y π E Λ' [(j, .tail sz z)]) : A K (.code (.region id all true) :: k) E Λ :=
  ⟨fun h e L hl r q => by
    obtain ⟨L', q1, q2⟩ := q.perm o.perm
    obtain ⟨M, L2, rfl, ⟨p, q3, rfl⟩, q4⟩ := q1
    refine V.perm (q2.append_right _) (V.drawO (C := K.cfg) j m π pubs (YA Y) (by rw [lenO_eq] at hj; simpa using hj) hm hok (hv.run h e L2 _ hl r q4 ?_))
    exact RpD.set (D := []) (Es := Slots.none) (fun i => rfl) ⟨p, q3, rfl⟩⟩
theorem WA.append {i : Nat} {o : Oper} {ks : List (Nat × Bool)} {y1 y2 : Operand} {t el : TypeId} {ti ei : TI} {x1 x2 : AV} {l1 l2 : List AV} {z : Value} {d : Nat} {ps : List Nat} {D' : Da} (hi : nthL all.toList i = some o)
    (hg : gyesA E all o.guard = some ks) (ho : o.op = .call ⟨.builtin .append, #[y1, y2], #[t, t]⟩) (h1 : E.ev K.gs ks y1 = some x1) (h2 : E.ev K.gs ks y2 = some x2)
    (ht : K.S.get t = some ti) (hdd : ti.d = .slice el) (he : K.S.get el = some ei) (s1 : slOf ei.size x1 = some (l1, some z)) (hD : lookD D i = some (.tail ei.size z)) (hp : pubs i = ps) (hpi : memB i ps = false) (hDD : dropD ps D = D')
    (hsz : Nat.blt 0 ei.size = true) (hz1 : allOne ei.zero = true) (hby : Nat.ble ei.bytes 4096 = true) (hd : o.dst = some d) (hc : okPutA K.n E d = true)
    (hs : SbP D ps x2 (.sl ei.size l2 none)) (hb : (l1.length + l2.length) * ei.size ≤ 1073741824)
    (next : ∀ z', WA K all m k pubs Y π ⟨(d, .sl ei.size (l1 ++ l2) (some z')) :: E.us, E.cs⟩ Λ ((i, .tail ei.size z') :: D')) : WA K all m k pubs Y (i :: π) E Λ D := by
  subst hDD; subst hp
  refine ⟨fun h e L Es hl r q dd => ?_⟩
  obtain ⟨v1, e1, f1⟩ := r.ev (K.hgs.mono hl) _ h1
  obtain ⟨v2, e2, f2⟩ := r.ev (K.hgs.mono hl) _ h2
  have f1 := slOf_rp s1 f1
  have hown : v1 = z := by rw [Rp_sl] at f1; obtain ⟨_, _, _, _, h3, _⟩ := f1; exact h3
  subst hown
  have hEi := dd i
  rw [hD] at hEi
  obtain ⟨p, hp1, p', hp2, hp3⟩ := hEi
  injection hp3 with hp3; subst hp3
  have hsz' : 0 < ei.size := by simpa [Nat.blt_eq] using hsz
  have hni : i ∉ pubs i := fun hm => by rw [memB_iff.2 hm] at hpi; cases hpi
  obtain ⟨zs1, a1, a2, a3⟩ := sl_Sl f1
  refine WE.append (G := drawRg K.cfg all (L ++ K.G) pubs (YA Y) m k) hi (gyesA_eq r hg) ho e1 e2 ht hdd he hsz hz1 hby hd (okPutA_eq r hc) hp1 hni (fun pk => ?_) (fun v' h' x' pk y1 y2 y3 => ?_)
  · have f2' := SbP.rp dd pk.1 pk.2 hs f2
    obtain ⟨zs2, b1, b2, b3⟩ := sl_Sl f2'
    exact ⟨hp2, _, _, a3.mono pk.1, b3, by rw [cat_len a2, cat_len b2, a1.len, b1.len, ← Nat.add_mul]; exact hb⟩
  · have f2' := SbP.rp dd pk.1 pk.2 hs f2
    obtain ⟨zs2, b1, b2, b3⟩ := sl_Sl f2'
    obtain ⟨g4, c1, c2, g1, g2, g3⟩ := y3
    have u1 := Sl.uniq g1 (a3.mono y2)
    have u2 := Sl.uniq g2 (b3.mono y1)
    subst u1; subst u2
    have hcat : catL zs1 ++ catL zs2 = catL (zs1 ++ zs2) := by simp [catL]
    rw [hcat] at g3
    have hrp : Rp h' (.sl ei.size (l1 ++ l2) (some v')) v' := Sl_sl hsz' ((a1.mono y2).append (b1.mono y1)) (fun z hz => by
      rcases List.mem_append.1 hz with hz | hz
      · exact a2 z hz
      · exact b2 z hz) g3
    exact (next v').run h' ⟨(d, v') :: e.us, e.cs⟩ L _ (GH.le_trans hl y2) ⟨(r.1.mono y2).put hrp, r.2.mono y2⟩ (q.mono y2) (((dd.mono y2).pub _).set ⟨x', g4, rfl⟩)
end
end Go.Tp
