/-
  This project's own program logic, part Lg (Tq5): generic texts, for any program. Conditions: as each theorem says.
-/
import Derived.Test.YtgmeahcclogfmaaDoorLf
/-! Tq5 -/
namespace Go.Tp
open Go Go.RowKit
set_option linter.unusedVariables false
set_option linter.unusedSimpArgs false
/-! ### runs -/
section
variable {P : Program} {w : World} {t kt : TypeId} {ti ki : TI}
theorem run_getMap {b : Nat} {es : Array MapEntry} {n : Nat} (hb : w.heap[b]? = some (.map es n)) : (getObj b).run P w = .ok (.map es n) w := by simp [getObj, Sem.run, hb]
theorem run_setMap {b : Nat} {es : Array MapEntry} {n : Nat} (o : Obj) (hb : w.heap[b]? = some (.map es n)) : (setObj b o).run P w = .ok () (w.putObj b o) := by simp [setObj, Sem.run, hb, World.putObj]
theorem run_checkKey {em : Bool} {kk : IntKind} {v : Value} (hk : TI.Ok P kt ki) (hd : ki.d = .int kk) : (Instr.checkKey em 10000 kt v).run P w = .ok () w := by
  unfold Instr.checkKey
  simp only [Sem.run_bind, run_underlying hk, Result.andThen_ok, hd]
  cases v <;> rfl
theorem run_findKey {kk : IntKind} {v : Value} {es : List MapEntry} {r : Option (Nat × Value)} (hk : TI.Ok P kt ki) (hd : ki.d = .int kk) (hf : Instr.findNow (.int kk) v es 0 = some r) : (Instr.findKey kt v es).run P w = .ok r w := by
  unfold Instr.findKey
  simp only [Sem.run_bind, run_underlying hk, Result.andThen_ok, hd, hf]
  rfl
end
section
variable {C : Cfg} {k : List It} {e : Env} {h : GH} {L : List Ent}
theorem V.makeMap {all : Array Oper} {o : Oper} {l : List Oper} {ks : List (Nat × Bool)} {t : TypeId} {d : Nat}
    (hg : gyes e all o.guard = some ks) (ho : o.op = .makeMap t none) (hd : o.dst = some d) (hc : okPut C.n e d = true)
    (next : ∀ b, V C (.ops all l :: k) ⟨(d, .map (some b)) :: e.us, e.cs⟩ h (⟨b, 0, [], some (.map #[] 0)⟩ :: L)) : V C (.ops all (o :: l) :: k) e h L :=
  V.gives hg hd hc fun a w g s hk => by
    refine ⟨_, _, h, _, ?_, s.allocObj (.map #[] 0) (fun _ _ _ x => by cases x), next _⟩
    unfold execOp
    rw [ho]
    simp [Instr.makeMap, newObj, Sem.run]
theorem V.insert {all : Array Oper} {o : Oper} {l : List Oper} {ks : List (Nat × Bool)} {t kt et : TypeId} {ti ki : TI} {m ky y : Operand} {b n : Nat} {kk : IntKind} {es : Array MapEntry} {kv v : Value} {L2 : List Ent}
    (hg : gyes e all o.guard = some ks) (ho : o.op = .insert t m ky y) (hm : e.ev ks m = some (.map (some b))) (hkv : e.ev ks ky = some kv) (hv : e.ev ks y = some v) (ht : C.S.get t = some ti) (htd : ti.d = .map kt et) (hkt : C.S.get kt = some ki) (hkd : ki.d = .int kk)
    (hf : Instr.findNow (.int kk) kv es.toList 0 = some none) (hd : o.dst = none) (hL : L = ⟨b, 0, [], some (.map es n)⟩ :: L2)
    (next : V C (.ops all l :: k) e h (⟨b, 0, [], some (.map (es.push ⟨kv, v, n⟩) (n + 1))⟩ :: L2)) : V C (.ops all (o :: l) :: k) e h L :=
  V.sure hg fun a w g s hk => by
    subst hL
    have hob := ((s.own _ (List.mem_cons_self ..)).obj _ rfl).2.1
    simp only at hob
    have s2 := s.setObj rfl (.map (es.push ⟨kv, v, n⟩) (n + 1)) (fun _ _ _ x => by cases x)
    unfold Oper.wp execOp
    rw [ho]
    simp only [g.ev hk hm, g.ev hk hkv, g.ev hk hv, Instr.mapUpdate, Sem.run_bind, run_underlying (TT.Ok.get C.ok ht), htd, Result.andThen_ok, run_getMap hob, run_checkKey (TT.Ok.get C.ok hkt) hkd, run_findKey (TT.Ok.get C.ok hkt) hkd hf, run_setMap _ hob, Sem.run_pure]
    exact ⟨e, h, _, by rw [hd]; exact g, s2, next⟩
theorem V.lookup {all : Array Oper} {o : Oper} {l : List Oper} {ks : List (Nat × Bool)} {t kt et : TypeId} {ti ki : TI} {m ky : Operand} {b n d i : Nat} {kk : IntKind} {es : Array MapEntry} {kv v : Value} {L2 : List Ent}
    (hg : gyes e all o.guard = some ks) (ho : o.op = .lookup t m ky false) (hm : e.ev ks m = some (.map (some b))) (hkv : e.ev ks ky = some kv) (ht : C.S.get t = some ti) (htd : ti.d = .map kt et) (hkt : C.S.get kt = some ki) (hkd : ki.d = .int kk)
    (hf : Instr.findNow (.int kk) kv es.toList 0 = some (some (i, v))) (hd : o.dst = some d) (hc : okPut C.n e d = true) (hL : L = ⟨b, 0, [], some (.map es n)⟩ :: L2)
    (next : V C (.ops all l :: k) ⟨(d, v) :: e.us, e.cs⟩ h L) : V C (.ops all (o :: l) :: k) e h L :=
  V.gives hg hd hc fun a w g s hk => by
    have hob := ((s.own ⟨b, 0, [], some (.map es n)⟩ (by rw [hL]; exact List.mem_cons_self ..)).obj _ rfl).2.1
    simp only at hob
    refine ⟨v, w, h, L, ?_, s, next⟩
    unfold execOp
    rw [ho]
    simp only [g.ev hk hm, g.ev hk hkv, Instr.lookup, Sem.run_bind, run_underlying (TT.Ok.get C.ok ht), htd, Result.andThen_ok, run_getMap hob, run_checkKey (TT.Ok.get C.ok hkt) hkd, run_findKey (TT.Ok.get C.ok hkt) hkd hf, Sem.run_pure]
    rfl
theorem V.lookupNil {all : Array Oper} {o : Oper} {l : List Oper} {ks : List (Nat × Bool)} {t kt et : TypeId} {ti ki : TI} {m ky : Operand} {b n d : Nat} {kk : IntKind} {es : Array MapEntry} {kv v : Value} {L2 : List Ent}
    (hg : gyes e all o.guard = some ks) (ho : o.op = .lookup t m ky false) (hm : e.ev ks m = some (.map (some b))) (hkv : e.ev ks ky = some kv) (ht : C.S.get t = some ti) (htd : ti.d = .map kt et) (hkt : C.S.get kt = some ki) (hkd : ki.d = .int kk)
    (hz : (C.P.info? et).bind (fun x => x.zero) = some v)
    (hf : Instr.findNow (.int kk) kv es.toList 0 = some none) (hd : o.dst = some d) (hc : okPut C.n e d = true) (hL : L = ⟨b, 0, [], some (.map es n)⟩ :: L2)
    (next : V C (.ops all l :: k) ⟨(d, v) :: e.us, e.cs⟩ h L) : V C (.ops all (o :: l) :: k) e h L :=
  V.gives hg hd hc fun a w g s hk => by
    have hob := ((s.own ⟨b, 0, [], some (.map es n)⟩ (by rw [hL]; exact List.mem_cons_self ..)).obj _ rfl).2.1
    simp only at hob
    refine ⟨v, w, h, L, ?_, s, next⟩
    obtain ⟨xi, hx1, hx2⟩ : ∃ xi, C.P.info? et = some xi ∧ xi.zero = some v := by
      cases hi : C.P.info? et with
      | none => rw [hi] at hz; cases hz
      | some xi => rw [hi] at hz; exact ⟨xi, rfl, hz⟩
    have hz1 : (zeroValue et).run C.P w = .ok v w := by simp [zeroValue, run_typeInfo hx1, hx2]
    unfold execOp
    rw [ho]
    simp only [g.ev hk hm, g.ev hk hkv, Instr.lookup, Sem.run_bind, run_underlying (TT.Ok.get C.ok ht), htd, Result.andThen_ok, run_getMap hob, run_checkKey (TT.Ok.get C.ok hkt) hkd, run_findKey (TT.Ok.get C.ok hkt) hkd hf, hz1, Sem.run_pure]
    rfl
end
/-! ### over data -/
def posK (kk : IntKind) (n : Int) : List Value → Option (Option Nat)
  | [] => some none
  | .int j m :: r => match decide (kk = j) with
    | true => match n == m with
      | true => some (some 0)
      | false => match posK kk n r with
        | some (some p) => some (some (p + 1))
        | some none => some none
        | none => none
    | false => none
  | _ => none
theorem findNow_pos {kk : IntKind} {n : Int} : ∀ {ks vs : List Value} {b i : Nat} {r : Option Nat}, ks.length = vs.length → posK kk n ks = some r →
    Instr.findNow (.int kk) (.int kk n) (mapEs ks vs b) i = some (match r with
      | some p => (vs[p]?).map fun v => (i + p, v)
      | none => none)
  | [], vs, b, i, r, hl, h => by
    simp only [posK] at h
    injection h with h; subst h
    cases vs <;> rfl
  | k :: ks, [], b, i, r, hl, h => by simp at hl
  | k :: ks, v :: vs, b, i, r, hl, h => by
    unfold posK at h
    split at h
    · cases ‹k :: ks = []›
    · rename_i j m r' he
      injection he with e1 e2; subst e1; subst e2
      split at h
      · rename_i hd
        have hd := of_decide_eq_true hd
        split at h
        · rename_i hn
          injection h with h; subst h
          simp only [mapEs, Instr.findNow, Instr.sameNow, if_pos hd, hn]
          simp
        · rename_i hn
          have ih := fun r hp => findNow_pos (kk := kk) (n := n) (ks := ks) (vs := vs) (b := b + 1) (i := i + 1) (r := r) (by simpa using hl) hp
          simp only [mapEs, Instr.findNow, Instr.sameNow, if_pos hd, hn]
          split at h
          · rename_i p hp
            injection h with h; subst h
            rw [ih _ hp]
            simp only [List.getElem?_cons_succ]
            cases vs[p]? with
            | none => rfl
            | some u => simp; omega
          · rename_i hp
            injection h with h; subst h
            rw [ih _ hp]
          · cases h
      · cases h
    · cases h
theorem mapEs_snoc : ∀ {ks vs : List Value} {k v : Value} {b : Nat}, ks.length = vs.length → mapEs (ks ++ [k]) (vs ++ [v]) b = mapEs ks vs b ++ [⟨k, v, b + ks.length⟩]
  | [], [], k, v, b, _ => by simp [mapEs]
  | [], v :: vs, _, _, _, h => by simp at h
  | k :: ks, [], _, _, _, h => by simp at h
  | k :: ks, v :: vs, k', v', b, h => by
    simp only [List.cons_append, mapEs, List.length_cons]
    rw [mapEs_snoc (ks := ks) (vs := vs) (by simpa using h)]
    congr 4
    omega
class AMp (Λ : List AEnt) (b : Nat) (ks : outParam (List Value)) (xs : outParam (List AV)) (Λ' : outParam (List AEnt)) : Prop where
  perm : Λ.Perm (.mp b ks xs :: Λ')
instance AMp.here {b : Nat} {ks : List Value} {xs : List AV} {Λ : List AEnt} : AMp (.mp b ks xs :: Λ) b ks xs Λ := ⟨.refl _⟩
instance (priority := low) AMp.there {y : AEnt} {b : Nat} {ks : List Value} {xs : List AV} {Λ Λ' : List AEnt} [i : AMp Λ b ks xs Λ'] : AMp (y :: Λ) b ks xs (y :: Λ') := ⟨(i.perm.cons y).trans (.swap _ _ _)⟩
section
variable {K : AC} {k : List It} {E : AEnv} {Λ : List AEnt}
theorem A.makeMap {all : Array Oper} {o : Oper} {l : List Oper} {ks : List (Nat × Bool)} {t : TypeId} {d : Nat}
    (hg : gyesA E all o.guard = some ks) (ho : o.op = .makeMap t none) (hd : o.dst = some d) (hc : okPutA K.n E d = true)
    (next : ∀ b, A K (.ops all l :: k) ⟨(d, .v (.map (some b))) :: E.us, E.cs⟩ (.mp b [] [] :: Λ)) : A K (.ops all (o :: l) :: k) E Λ := by
  refine ⟨fun h e L hl r q => ?_⟩
  refine V.makeMap (C := K.cfg) (gyesA_eq r hg) ho hd (okPutA_eq r hc) fun b => ?_
  exact (next b).run h _ (_ :: L) hl ⟨r.1.put (Rp_v.2 ⟨rfl, rfl⟩), r.2⟩ (.one ⟨rfl, [], RpC_nil.2 rfl, rfl⟩ q)
theorem A.insert {all : Array Oper} {o : Oper} {l : List Oper} {ks : List (Nat × Bool)} {t kt et : TypeId} {ti ki : TI} {m ky y : Operand} {b : Nat} {kk : IntKind} {n : Int} {nks : List Value} {xs : List AV} {x : AV} {Λ' : List AEnt}
    (hg : gyesA E all o.guard = some ks) (ho : o.op = .insert t m ky y) (hm : E.ev K.gs ks m = some (.v (.map (some b)))) (hkv : E.ev K.gs ks ky = some (.v (.int kk n))) (hv : E.ev K.gs ks y = some x) (ht : K.S.get t = some ti) (htd : ti.d = .map kt et) (hkt : K.S.get kt = some ki) (hkd : ki.d = .int kk)
    [i : AMp Λ b nks xs Λ'] (hf : posK kk n nks = some none) (hd : o.dst = none) (next : A K (.ops all l :: k) E (.mp b (nks ++ [.int kk n]) (xs ++ [x]) :: Λ')) : A K (.ops all (o :: l) :: k) E Λ := by
  refine ⟨fun h e L hl r q => ?_⟩
  obtain ⟨v1, e1, f1⟩ := r.ev (K.hgs.mono hl) _ hm
  obtain ⟨v2, e2, f2⟩ := r.ev (K.hgs.mono hl) _ hkv
  obtain ⟨v3, e3, f3⟩ := r.ev (K.hgs.mono hl) _ hv
  rw [Rp_v] at f1 f2
  rw [f1.1] at e1
  rw [f2.1] at e2
  obtain ⟨L', q1, q2⟩ := q.perm i.perm
  obtain ⟨M, L2, rfl, ⟨hlen, vs, hvs, rfl⟩, q4⟩ := q1
  have hl2 : nks.length = vs.length := by rw [hlen, hvs.len]
  refine V.perm (q2.append_right _) ?_
  refine V.insert (C := K.cfg) (n := nks.length) (es := ⟨mapEs nks vs 0⟩) (L2 := L2 ++ K.G) (gyesA_eq r hg) ho e1 e2 e3 ht htd hkt hkd (findNow_pos hl2 hf) hd rfl ?_
  have := next.run h e (⟨b, 0, [], some (.map ⟨mapEs (nks ++ [.int kk n]) (vs ++ [v3]) 0⟩ (nks ++ [Value.int kk n]).length)⟩ :: L2) hl r (.one ⟨by simp [hlen], _, hvs.append (RpC_cons.2 ⟨_, _, rfl, f3, RpC_nil.2 rfl⟩), rfl⟩ q4)
  rw [mapEs_snoc hl2] at this
  simpa using this
theorem A.lookup {all : Array Oper} {o : Oper} {l : List Oper} {ks : List (Nat × Bool)} {t kt et : TypeId} {ti ki : TI} {m ky : Operand} {b d p : Nat} {kk : IntKind} {n : Int} {nks : List Value} {xs : List AV} {x : AV} {Λ' : List AEnt}
    (hg : gyesA E all o.guard = some ks) (ho : o.op = .lookup t m ky false) (hm : E.ev K.gs ks m = some (.v (.map (some b)))) (hkv : E.ev K.gs ks ky = some (.v (.int kk n))) (ht : K.S.get t = some ti) (htd : ti.d = .map kt et) (hkt : K.S.get kt = some ki) (hkd : ki.d = .int kk)
    [i : AMp Λ b nks xs Λ'] (hf : posK kk n nks = some (some p)) (hx : xs[p]? = some x) (hd : o.dst = some d) (hc : okPutA K.n E d = true) (next : A K (.ops all l :: k) ⟨(d, x) :: E.us, E.cs⟩ Λ') : A K (.ops all (o :: l) :: k) E Λ := by
  refine ⟨fun h e L hl r q => ?_⟩
  obtain ⟨v1, e1, f1⟩ := r.ev (K.hgs.mono hl) _ hm
  obtain ⟨v2, e2, f2⟩ := r.ev (K.hgs.mono hl) _ hkv
  rw [Rp_v] at f1 f2
  rw [f1.1] at e1
  rw [f2.1] at e2
  obtain ⟨L', q1, q2⟩ := q.perm i.perm
  obtain ⟨M, L2, rfl, ⟨hlen, vs, hvs, rfl⟩, q4⟩ := q1
  have hl2 : nks.length = vs.length := by rw [hlen, hvs.len]
  obtain ⟨u, hu, hux⟩ := hvs.at hx
  have hfn := findNow_pos (b := 0) (i := 0) hl2 hf
  simp only [hu, Option.map_some] at hfn
  refine V.perm (q2.append_right _) ?_
  refine V.lookup (C := K.cfg) (n := nks.length) (es := ⟨mapEs nks vs 0⟩) (L2 := L2 ++ K.G) (gyesA_eq r hg) ho e1 e2 ht htd hkt hkd hfn hd (okPutA_eq r hc) rfl ?_
  exact V.tail (next.run h _ L2 hl ⟨r.1.put hux, r.2⟩ q4)
theorem A.lookupNil {all : Array Oper} {o : Oper} {l : List Oper} {ks : List (Nat × Bool)} {t kt et : TypeId} {ti ki : TI} {m ky : Operand} {b d : Nat} {kk : IntKind} {n : Int} {nks : List Value} {xs : List AV} {v : Value} {Λ' : List AEnt}
    (hg : gyesA E all o.guard = some ks) (ho : o.op = .lookup t m ky false) (hm : E.ev K.gs ks m = some (.v (.map (some b)))) (hkv : E.ev K.gs ks ky = some (.v (.int kk n))) (ht : K.S.get t = some ti) (htd : ti.d = .map kt et) (hkt : K.S.get kt = some ki) (hkd : ki.d = .int kk) (hz : (K.P.info? et).bind (fun x => x.zero) = some v) (hone : oneC v = true)
    [i : AMp Λ b nks xs Λ'] (hf : posK kk n nks = some none) (hd : o.dst = some d) (hc : okPutA K.n E d = true) (next : A K (.ops all l :: k) ⟨(d, .v v) :: E.us, E.cs⟩ Λ') : A K (.ops all (o :: l) :: k) E Λ := by
  refine ⟨fun h e L hl r q => ?_⟩
  obtain ⟨v1, e1, f1⟩ := r.ev (K.hgs.mono hl) _ hm
  obtain ⟨v2, e2, f2⟩ := r.ev (K.hgs.mono hl) _ hkv
  rw [Rp_v] at f1 f2
  rw [f1.1] at e1
  rw [f2.1] at e2
  obtain ⟨L', q1, q2⟩ := q.perm i.perm
  obtain ⟨M, L2, rfl, ⟨hlen, vs, hvs, rfl⟩, q4⟩ := q1
  have hl2 : nks.length = vs.length := by rw [hlen, hvs.len]
  have hfn := findNow_pos (b := 0) (i := 0) hl2 hf
  refine V.perm (q2.append_right _) ?_
  refine V.lookupNil (C := K.cfg) (n := nks.length) (es := ⟨mapEs nks vs 0⟩) (L2 := L2 ++ K.G) (gyesA_eq r hg) ho e1 e2 ht htd hkt hkd hz hfn hd (okPutA_eq r hc) rfl ?_
  exact V.tail (next.run h _ L2 hl ⟨r.1.put (Rp_v.2 ⟨rfl, hone⟩), r.2⟩ q4)
theorem Lt.box {Λ : List AEnt} {b sz : Nat} {cs : List AV} (hm : AEnt.box b (.ag cs) ∈ Λ) (hs : cs.length = sz) : Lt Λ (.v (.pointer (some ⟨b, 0, none⟩))) (.pe sz (.ag cs)) := fun h L h' v q hl ha r => by
  obtain ⟨L1, ⟨z, q1, rfl⟩, q2⟩ := allAt.mem q ha hm
  rw [Rp_v] at r
  rw [r.1, Rp_pe]
  have hz := Rp_ag.1 q1
  obtain ⟨zs, rfl, hz2⟩ := hz
  exact ⟨b, 0, _, rfl, q1.mono hl, by rw [← hs, ← hz2.len]; rfl, q2 _ (List.mem_singleton.2 rfl)⟩
end
end Go.Tp
