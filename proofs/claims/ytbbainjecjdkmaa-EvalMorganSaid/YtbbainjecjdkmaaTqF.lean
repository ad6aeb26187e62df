/-
  (TqF: over data: variables that change no more; slices that the function itself makes and writes.)
-/
import Derived.Test.YtbbainjecjdkmaaTqE
import Derived.Laws.MakeOwn
namespace Go.Tp
open Go Go.RowKit
set_option linter.unusedVariables false
set_option linter.unusedSimpArgs false

theorem hollow_st {w0 w : World} {h : GH} {L : List Ent} (s : St w0 h L w) (p : Ent) (hp : p.cs = []) (ho : p.obj = none) : St w0 h (p :: L) w := by
  refine ⟨s.below, s.imm, s.imm1, fun q hq => ?_, List.pairwise_cons.2 ⟨fun q hq => ⟨fun i j hi => by rw [hp] at hi; simp at hi, fun x => by rw [ho] at x; cases x⟩, s.dis⟩, s.frz⟩
  rcases List.mem_cons.1 hq with rfl | hq
  · exact ⟨fun v hv => by rw [hp] at hv; simp at hv, fun i v hv => by rw [hp] at hv; simp at hv, fun i hi => by rw [hp] at hi; simp at hi, fun i hi => by rw [hp] at hi; simp at hi, fun i hi => by rw [hp] at hi; simp at hi, fun o h' => by rw [ho] at h'; cases h'⟩
  · exact s.own q hq

section
variable {C : Cfg} {k : List It} {e : Env} {h : GH} {L : List Ent}
/-- make -/
theorem V.make {all : Array Oper} {o : Oper} {l : List Oper} {ks : List (Nat × Bool)} {t el : TypeId} {ti ei : TI} {y1 y2 : Operand} {k1 k2 : IntKind} {n : Int} {d : Nat}
    (hg : gyes e all o.guard = some ks) (ho : o.op = .makeSlice t y1 y2) (h1 : e.ev ks y1 = some (.int k1 n)) (h2 : e.ev ks y2 = some (.int k2 n)) (ht : C.S.get t = some ti) (hdd : ti.d = .slice el) (he : C.S.get el = some ei)
    (hsz : 0 < ei.size) (hz1 : allOne ei.zero = true) (hd : o.dst = some d) (hc : okPut C.n e d = true) (h0 : 0 ≤ n) (hb : (ei.bytes : Int) * n ≤ 140737488355328) (hn : n ≤ 9223372036854775807)
    (next : ∀ b, V C (.ops all l :: k) ⟨(d, .slice (some ⟨b, 0, none⟩) n.toNat n.toNat) :: e.us, e.cs⟩ h (⟨b, 0, (List.replicate n.toNat ei.zero).flatten, none⟩ :: L)) : V C (.ops all (o :: l) :: k) e h L :=
  V.gives hg hd hc fun a w g s hk => by
    have ok := TT.Ok.get C.ok ht
    have oke := TT.Ok.get C.ok he
    obtain ⟨xi, zv, hxi, hxs, hxb, hxz, hzl⟩ := oke.info
    have hund : C.P.underlying t = some (.slice el) := by rw [ok.und, hdd]
    have hr := run_make (P := C.P) w t el xi zv hund hxi hxz k1 k2 n n h0 (Int.le_refl _) (by rw [hxb]; omega) hn
    have hcells : madeCells zv.cells (n.toNat * xi.size) = ⟨(List.replicate n.toNat ei.zero).flatten⟩ := by
      have hz0 : ei.zero ≠ [] := by intro hh; have := oke.len; rw [hh] at this; simp at this; omega
      have := flatten_replicate_mod ei.zero hz0 n.toNat
      rw [oke.len] at this
      rw [← this, hxs, show zv.cells = ei.zero.toArray from by rw [← hzl]]
      rfl
    rw [hcells] at hr
    have hone : allOne (List.replicate n.toNat ei.zero).flatten = true := allOne_of fun v hv => by
      obtain ⟨l, hl, hvl⟩ := List.mem_flatten.1 hv
      have := (List.mem_replicate.1 hl).2
      subst this
      exact allOne_mem hz1 v hvl
    refine ⟨_, _, h, _, ?_, s.alloc ⟨_⟩ el hone, next _⟩
    unfold execOp
    rw [ho]
    simp only [g.ev hk h1, g.ev hk h2, Sem.run_bind, hr, Result.andThen_ok, Sem.run_pure]

theorem run_appendNew {P : Program} {S : TT} (hS : S.Ok P) {w0 w : World} {h : GH} {L : List Ent} {t el ty : TypeId} {ti ei : TI} {v2 : Value} {c2 : List Value} (a : Option Addr) (ha : ∀ x, a = some x → x.spot = none)
    (ht : S.get t = some ti) (hd : ti.d = .slice el) (he : S.get el = some ei) (hsz : 0 < ei.size) (hz1 : allOne ei.zero = true) (hby : ei.bytes ≤ 4096)
    (s : St w0 h L w) (a2 : Sl h ei.size v2 c2) (hb : c2.length ≤ 1073741824) :
    ∃ v' w' p, (Builtin.append_ #[t, t] ty #[.slice a 0 0, v2]).run P w = .ok v' w' ∧ St w0 h (p :: L) w' ∧ p.obj = none ∧
      ∃ a' n cap, v' = .slice a' n cap ∧ n ≤ cap ∧ c2.length = n * ei.size ∧ ((c2 = [] ∧ p.cs = [] ∧ cap = 0 ∧ ∀ y, a' = some y → y.spot = none) ∨ ∃ b sp, a' = some ⟨b, 0, none⟩ ∧ p = ⟨b, 0, c2 ++ sp, none⟩ ∧ sp.length = (cap - n) * ei.size) := by
  have ok := TT.Ok.get hS ht
  have oke := TT.Ok.get hS he
  obtain ⟨xi, zv, hxi, hxs, hxb, hxz, hzl⟩ := oke.info
  have hund : P.underlying t = some (.slice el) := by rw [ok.und, hd]
  have one2 := Sl.one s hsz a2
  obtain ⟨b2, n2, cap2, e2, hle2, hn2, hat2⟩ := a2
  subst e2
  have hl2 : n2 ≤ c2.length := by rw [hn2]; exact Nat.le_mul_of_pos_right _ hsz
  have hz : Builtin.zeroCells zv.cells = fun n => ⟨(List.replicate n ei.zero).flatten⟩ := by
    funext n
    rw [show zv.cells = ⟨ei.zero⟩ from by rw [← hzl]]
    refine zeroCells_eq _ _ ?_
    intro e
    have := oke.len
    rw [e] at this; simp at this; omega
  rcases Nat.eq_zero_or_pos n2 with h20 | h2p
  · subst h20
    have hc2 : c2 = [] := List.length_eq_zero_iff.1 (by simpa using hn2)
    subst hc2
    refine ⟨.slice a 0 0, w, ⟨0, 0, [], none⟩, ?_, hollow_st s _ rfl rfl, rfl, a, 0, 0, rfl, Nat.le_refl _, by simp, .inl ⟨rfl, rfl, rfl, ha⟩⟩
    have hf : ∀ w' : World, (Builtin.firstCells xi.size 0 (.slice b2 0 cap2)).run P w' = .ok #[] w' := fun w' => by cases b2 <;> simp [Builtin.firstCells, loadCells, loadCellsFrom]
    cases a with
    | none => simp [Builtin.append_, Go.run_underlying hund, sizeOf, typeInfo, hxi, Builtin.lenOf, hf]
    | some a => simp [Builtin.append_, Go.run_underlying hund, sizeOf, typeInfo, hxi, Builtin.lenOf, hf, storeCells]
  · obtain ⟨b, o2, rfl, y2⟩ := hat2 h2p
    have hnews : ∀ j u, c2[j]? = some u → w.cell? ((⟨b, o2, none⟩ : Addr).add j) = some u := fun j u hu => by rw [add_norm]; exact s.imm _ _ _ (y2 j u hu)
    have hfin : ∀ (nc : Nat), n2 ≤ nc → ∀ arr : Array Value, arr = ⟨c2 ++ (List.replicate (nc - n2) ei.zero).flatten⟩ →
        St w0 h (⟨w.heap.size, 0, c2 ++ (List.replicate (nc - n2) ei.zero).flatten, none⟩ :: L) (w.drew.alloc (.cells arr el)) := fun nc _ arr harr => by
      have honer : ∀ v, v ∈ (List.replicate (nc - n2) ei.zero).flatten → oneC v = true := fun v hv => by
        obtain ⟨l, hl, hvl⟩ := List.mem_flatten.1 hv
        have := (List.mem_replicate.1 hl).2
        subst this
        exact allOne_mem hz1 v hvl
      have := s.drew.alloc arr el (by rw [harr]; exact allOne_of (allOne_append one2 honer))
      rw [harr] at this ⊢
      exact this
    cases a with
    | none =>
      have hr := run_append_nil (P := P) w t ty el xi zv hund hxi hxz ⟨b, o2, none⟩ n2 cap2 c2 (by rw [hxs]; exact hn2) hnews h2p (by omega) (by
        rw [hxb]
        have : n2 * ei.bytes ≤ 1073741824 * 4096 := Nat.mul_le_mul (by omega) hby
        omega)
      exact ⟨_, _, _, hr, hfin (grownCap w n2 0 el) (grownCap_ge ..) _ (by rw [hz]; apply Array.ext'; simp), rfl, _, _, _, rfl, grownCap_ge .., hn2, .inr ⟨_, _, rfl, rfl, by simp only [List.length_flatten, List.map_replicate, List.sum_replicate_nat, oke.len]⟩⟩
    | some x =>
      obtain ⟨bb, o, sp⟩ := x
      have := ha _ rfl
      simp only at this; subst this
      have hr := run_append_grow (P := P) w t ty el xi zv hund hxi hxz ⟨bb, o, none⟩ 0 0 [] (by simp) (fun j u hu => by simp at hu) ⟨b, o2, none⟩ n2 cap2 c2 (by rw [hxs]; exact hn2) hnews (by omega) (by omega) (growslice_fits (by omega) (by
        rw [hxb]
        have : (0 + n2) * ei.bytes ≤ 1073741824 * 4096 := Nat.mul_le_mul (by omega) hby
        omega))
      rw [Nat.zero_add] at hr
      exact ⟨_, _, _, hr, hfin (grownCap w n2 0 el) (grownCap_ge ..) _ (by rw [hz]; apply Array.ext'; simp), rfl, _, _, _, rfl, grownCap_ge .., hn2, .inr ⟨_, _, rfl, rfl, by simp only [List.length_flatten, List.map_replicate, List.sum_replicate_nat, oke.len]⟩⟩
theorem V.appendNew {all : Array Oper} {o : Oper} {l : List Oper} {ks : List (Nat × Bool)} {y1 y2 : Operand} {t el : TypeId} {ti ei : TI} {a : Option Addr} {v2 : Value} {c2 : List Value} {d : Nat} (ha : ∀ x, a = some x → x.spot = none)
    (hg : gyes e all o.guard = some ks) (ho : o.op = .call ⟨.builtin .append, #[y1, y2], #[t, t]⟩) (h1 : e.ev ks y1 = some (.slice a 0 0)) (h2 : e.ev ks y2 = some v2)
    (ht : C.S.get t = some ti) (hd : ti.d = .slice el) (he : C.S.get el = some ei) (hsz : 0 < ei.size) (hz1 : allOne ei.zero = true) (hby : ei.bytes ≤ 4096) (hdst : o.dst = some d) (hc : okPut C.n e d = true)
    (a2 : Sl h ei.size v2 c2) (hb : c2.length ≤ 1073741824)
    (next : ∀ p a' n cap, p.obj = none → n ≤ cap → c2.length = n * ei.size → ((c2 = [] ∧ p.cs = [] ∧ cap = 0 ∧ ∀ y, a' = some y → y.spot = none) ∨ ∃ b sp, a' = some ⟨b, 0, none⟩ ∧ p = ⟨b, 0, c2 ++ sp, none⟩ ∧ sp.length = (cap - n) * ei.size) →
      V C (.ops all l :: k) ⟨(d, .slice a' n cap) :: e.us, e.cs⟩ h (p :: L)) : V C (.ops all (o :: l) :: k) e h L :=
  V.gives hg hdst hc fun ac w g s hk => by
    obtain ⟨v', w', p, r1, r2, r3, a', n, cap, rfl, r4, r5, r6⟩ := run_appendNew (ty := o.type) C.ok a ha ht hd he hsz hz1 hby s a2 hb
    refine ⟨_, w', h, _, ?_, r2, next p a' n cap r3 r4 r5 r6⟩
    unfold execOp
    rw [ho]
    simp [resolve, invoke, builtin, g.ev hk h1, g.ev hk h2, r1]
end

section
variable {K : AC} {k : List It} {E : AEnv} {Λ : List AEnt}

/-! ### what changes no more -/
/-- a variable that is written no more: its place, and for good what stands there -/
theorem A.freeze (t : Nat) {b : Nat} {x : AV} {vs : List AV} {sz : Nat} {Λ' : List AEnt} (hx : lookA E.us t = some (.v (.pointer (some ⟨b, 0, none⟩)))) [i : AAt Λ b x] [j : AOut Λ (.box b x) Λ'] (hc : cellsA x = some vs) (hn : lenN vs = sz)
    (next : A K k ⟨(t, .pe sz x) :: E.us, E.cs⟩ Λ') : A K k E Λ := by
  refine ⟨fun h e L hl r q => ?_⟩
  rcases r.1.look t with ⟨y, v, e1, e2, e3⟩ | ⟨e1, e2⟩
  · rw [hx] at e1; injection e1 with e1; subst e1
    rw [Rp_v] at e3
    obtain ⟨L', q1, q2⟩ := q.perm j.perm
    obtain ⟨M, L2, rfl, ⟨z, q3, rfl⟩, q4⟩ := q1
    refine V.perm (q2.append_right _) (V.publish fun hle => ?_)
    have hrp : Rp (h.add b 0 (cellsL z)) (.pe sz x) v := by
      rw [e3.1, Rp_pe]
      exact ⟨b, 0, z, rfl, q3.mono hle, by rw [(cellsA_rp q3 hc).len, ← hn, lenN_eq], fun i u hu => GH.add_at h b 0 _ hu⟩
    exact V.val t e2 rfl (next.run _ ⟨(t, v) :: e.us, e.cs⟩ L2 (GH.le_trans hl hle) ⟨(r.1.mono hle).put hrp, r.2.mono hle⟩ (q4.mono hle))
  · rw [hx] at e1; cases e1
/-- a slice that is written no more -/
theorem A.freezeRow (t : Nat) {z : Value} {sz sz' n : Nat} {l : List AV} {Λ' : List AEnt} (hx : lookA E.us t = some (.ms z sz' n)) [i : ARow Λ z sz l] [j : AOut Λ (.row sz z l) Λ']
    (next : A K k ⟨(t, .sl sz l none) :: E.us, E.cs⟩ Λ') : A K k E Λ := by
  refine ⟨fun h e L hl r q => ?_⟩
  rcases r.1.look t with ⟨y, v, e1, e2, e3⟩ | ⟨e1, e2⟩
  · rw [hx] at e1; injection e1 with e1; subst e1
    rw [Rp_ms] at e3
    obtain ⟨rfl, _⟩ := e3
    obtain ⟨L', q1, q2⟩ := q.perm j.perm
    obtain ⟨M, L2, rfl, ⟨p, q3, rfl⟩, q4⟩ := q1
    obtain ⟨a, cap, zs, rfl, g2, g3, g4, g5⟩ := q3
    obtain ⟨pb, plo, pcs, pobj⟩ := p
    simp only at g4; subst g4
    refine V.perm (q2.append_right _) (V.publish fun hle => ?_)
    have hrp : Rp (h.add pb plo pcs) (.sl sz l none) (.slice a l.length cap) := by
      rw [Rp_sl]
      refine ⟨a, cap, rfl, g2, trivial, fun hn => ?_⟩
      rcases g5 with ⟨g5, _⟩ | ⟨b, o, sp, rfl, g5, _⟩
      · exact (hn g5).elim
      · injection g5 with g6 g7 g8; subst g6; subst g7; subst g8
        exact ⟨pb, plo, rfl, RpE_of (g3.rp.mono hle) g3.sz (atH.left fun i u hu => GH.add_at h pb plo _ hu)⟩
    exact V.val t e2 rfl (next.run _ ⟨(t, _) :: e.us, e.cs⟩ L2 (GH.le_trans hl hle) ⟨(r.1.mono hle).put hrp, r.2.mono hle⟩ (q4.mono hle))
  · rw [hx] at e1; cases e1

/-! ### slices that are written -/
theorem A.make {all : Array Oper} {o : Oper} {l : List Oper} {ks : List (Nat × Bool)} {t el : TypeId} {ti ei : TI} {y1 y2 : Operand} {k1 k2 : IntKind} {n : Int} {d : Nat} {x : AV}
    (hg : gyesA E all o.guard = some ks) (ho : o.op = .makeSlice t y1 y2) (h1 : E.ev K.gs ks y1 = some (.v (.int k1 n))) (h2 : E.ev K.gs ks y2 = some (.v (.int k2 n))) (ht : K.S.get t = some ti) (hdd : ti.d = .slice el) (he : K.S.get el = some ei)
    (hsz : Nat.blt 0 ei.size = true) (hlen : Nat.beq ei.zero.length ei.size = true) (hz : zeroA ei = some x) (hd : o.dst = some d) (hc : okPutA K.n E d = true) (h0 : 0 ≤ n) (hb : (ei.bytes : Int) * n ≤ 140737488355328) (hn : n ≤ 9223372036854775807)
    (next : ∀ z, A K (.ops all l :: k) ⟨(d, .ms z ei.size n.toNat) :: E.us, E.cs⟩ (.row ei.size z (List.replicate n.toNat x) :: Λ)) : A K (.ops all (o :: l) :: k) E Λ := by
  refine ⟨fun h e L hl r q => ?_⟩
  obtain ⟨v1, e1, f1⟩ := r.ev (K.hgs.mono hl) _ h1
  obtain ⟨v2, e2, f2⟩ := r.ev (K.hgs.mono hl) _ h2
  rw [Rp_v] at f1 f2; rw [f1.1] at e1; rw [f2.1] at e2
  have hsz' : 0 < ei.size := by simpa [Nat.blt_eq] using hsz
  refine V.make (C := K.cfg) (gyesA_eq r hg) ho e1 e2 ht hdd he hsz' (zeroA_one hz) hd (okPutA_eq r hc) h0 hb hn fun b => ?_
  obtain ⟨z0, g1, g2⟩ := zeroA_rp (h := h) hz
  have hrep : ∀ n, Els h ei.size (List.replicate n x) (List.replicate n z0) := fun n => by
    have := repA_els g1 (sz := ei.size) (by rw [g2]; exact Nat.eq_of_beq_eq_true hlen) (by rw [g2]; exact zeroA_one hz) n
    have he : ∀ n, repA n x = List.replicate n x := fun n => by
      induction n with
      | zero => rfl
      | succ n ih => rw [repA, ih, List.replicate_succ]
    rwa [he] at this
  refine (next (.slice (some ⟨b, 0, none⟩) n.toNat n.toNat)).run h _ (_ :: L) hl ⟨r.1.put (Rp_ms.2 ⟨rfl, _, _, rfl⟩), r.2⟩
    (.one ⟨_, ⟨some ⟨b, 0, none⟩, n.toNat, _, by simp, by simp, hrep _, rfl, .inr ⟨b, 0, [], rfl, ?_, by simp⟩⟩, rfl⟩ q)
  rw [List.append_nil, cat_rep, g2]
theorem A.appendNew {all : Array Oper} {o : Oper} {l : List Oper} {ks : List (Nat × Bool)} {y1 y2 : Operand} {t el : TypeId} {ti ei : TI} {x1 x2 : AV} {l1 l2 : List AV} {a : Option Addr} {own2 : Option Value} {d : Nat}
    (hg : gyesA E all o.guard = some ks) (ho : o.op = .call ⟨.builtin .append, #[y1, y2], #[t, t]⟩) (h1 : E.ev K.gs ks y1 = some x1) (h2 : E.ev K.gs ks y2 = some x2)
    (ht : K.S.get t = some ti) (hdd : ti.d = .slice el) (he : K.S.get el = some ei) (s1 : slOf ei.size x1 = some (l1, some (.slice a 0 0))) (s2 : slOf ei.size x2 = some (l2, own2))
    (hsz : Nat.blt 0 ei.size = true) (hz1 : allOne ei.zero = true) (hby : Nat.ble ei.bytes 4096 = true) (hd : o.dst = some d) (hc : okPutA K.n E d = true)
    (hb : l2.length * ei.size ≤ 1073741824) (ha : ∀ x, a = some x → x.spot = none) (hone : ∀ (h : GH) zs, RpC h l2 zs → ∀ z, z ∈ zs → allOne (cellsL z) = true)
    (next : ∀ z, A K (.ops all l :: k) ⟨(d, .ms z ei.size l2.length) :: E.us, E.cs⟩ (.row ei.size z l2 :: Λ)) : A K (.ops all (o :: l) :: k) E Λ := by
  refine ⟨fun h e L hl r q => ?_⟩
  obtain ⟨v1, e1, f1⟩ := r.ev (K.hgs.mono hl) _ h1
  obtain ⟨v2, e2, f2⟩ := r.ev (K.hgs.mono hl) _ h2
  have f1 := slOf_rp s1 f1
  have f2 := slOf_rp s2 f2
  have hown : v1 = .slice a 0 0 := by rw [Rp_sl] at f1; obtain ⟨_, _, _, _, h3, _⟩ := f1; exact h3
  subst hown
  obtain ⟨zs2, b1, b2, b3⟩ := sl_Sl f2
  have hsz' : 0 < ei.size := by simpa [Nat.blt_eq] using hsz
  have hlen : (catL zs2).length = l2.length * ei.size := by rw [cat_len b2, b1.len]
  refine V.appendNew (C := K.cfg) ha (gyesA_eq r hg) ho e1 e2 ht hdd he hsz' hz1 (Nat.le_of_ble_eq_true hby) hd (okPutA_eq r hc) b3 (by rw [hlen]; exact hb) ?_
  intro p a' n cap p1 p2 p3 p4
  have hn : n = l2.length := Nat.eq_of_mul_eq_mul_right hsz' (by rw [← p3, hlen])
  subst hn
  refine (next (.slice a' l2.length cap)).run h _ (p :: L) hl ⟨r.1.put (Rp_ms.2 ⟨rfl, _, _, rfl⟩), r.2⟩ (.one ⟨p, ⟨a', cap, zs2, rfl, p2, ⟨b1, b2, hone h zs2 b1⟩, p1, ?_⟩, rfl⟩ q)
  rcases p4 with ⟨p5, p6⟩ | ⟨b, sp, p5, p6, p7⟩
  · left
    refine ⟨?_, p6⟩
    rw [p5] at hlen
    have : l2.length = 0 := by
      rcases Nat.eq_zero_or_pos l2.length with h | h
      · exact h
      · have := Nat.mul_pos h hsz'; simp at hlen; omega
    exact List.length_eq_zero_iff.1 this
  · exact .inr ⟨b, 0, sp, p5, p6, p7⟩
/-- the place of an element of such a slice -/
theorem A.indexRow {all : Array Oper} {o : Oper} {l : List Oper} {ks : List (Nat × Bool)} {t el : TypeId} {ti ei : TI} {x ix : Operand} {z : Value} {sz sz' n : Nat} {xs : List AV} {kk : IntKind} {i : Int} {E' : AEnv}
    (hg : gyesA E all o.guard = some ks) (ho : o.op = .indexAddr t x ix) (hx : E.ev K.gs ks x = some (.ms z sz' n)) (hi : E.ev K.gs ks ix = some (.v (.int kk i))) (ht : K.S.get t = some ti) (hdd : ti.d = .slice el) (he : K.S.get el = some ei) [j : ARow Λ z sz xs]
    (hs : Nat.beq ei.size sz = true) (h0 : 0 ≤ i) (h1 : i < xs.length) (hput : E.put K.n none o.dst (.ep z sz i.toNat) = some E') (next : A K (.ops all l :: k) E' Λ) : A K (.ops all (o :: l) :: k) E Λ := by
  refine ⟨fun h e L hl r q => ?_⟩
  have hs := Nat.eq_of_beq_eq_true hs
  obtain ⟨v1, e1, f1⟩ := r.ev (K.hgs.mono hl) _ hx
  obtain ⟨v2, e2, f2⟩ := r.ev (K.hgs.mono hl) _ hi
  rw [Rp_v] at f2; rw [f2.1] at e2
  rw [Rp_ms] at f1
  obtain ⟨rfl, _⟩ := f1
  obtain ⟨M, _, p, ⟨a, cap, zs, rfl, g2, g3, g4, g5⟩, _⟩ := q.mem j.mem
  rcases g5 with ⟨g5, _⟩ | ⟨b, off, sp, rfl, rfl, _⟩
  · subst g5; simp at h1; omega
  · obtain ⟨e', e4, e5⟩ := putA_eq r hput (Rp_ep.2 ⟨b, off, xs.length, cap, rfl, by omega, rfl⟩)
    have hiv : idxv K.S t (.slice (some ⟨b, off, none⟩) xs.length cap) i = some (.pointer (some ⟨b, off + i.toNat * sz, none⟩), xs.length) := by simp only [idxv, ht, hdd, he, hs]
    exact V.indexY (C := K.cfg) (gyesA_eq r hg) ho e1 e2 hiv e4 h0 h1 (next.run h e' L hl e5 q)
theorem catL_sub : ∀ {zs : List Value} {sz i : Nat} {z : Value} {sp : List Value}, (∀ z, z ∈ zs → (cellsL z).length = sz) → zs[i]? = some z → subL (catL zs ++ sp) (i * sz) sz = some (cellsL z)
  | [], _, _, _, _, _, h => by simp at h
  | y :: zs, sz, 0, z, sp, hz, h => by
    injection h with h; subst h
    have hlen := hz y (List.mem_cons_self ..)
    simp only [catL, List.flatMap_cons, Nat.zero_mul, List.append_assoc]
    have : ∀ (l r : List Value), subL (l ++ r) 0 l.length = some l := by
      intro l r
      induction l with
      | nil => cases r <;> rfl
      | cons x l ih => simp only [List.cons_append, List.length_cons, subL, ih]
    rw [← hlen]; exact this _ _
  | y :: zs, sz, i + 1, z, sp, hz, h => by
    have hlen := hz y (List.mem_cons_self ..)
    have ih := catL_sub (zs := zs) (i := i) (sp := sp) (fun x hx => hz x (List.mem_cons_of_mem _ hx)) (by simpa using h)
    have : ∀ (l r : List Value) (k n : Nat), subL (l ++ r) (l.length + k) n = subL r k n := by
      intro l r k n
      induction l with
      | nil => simp
      | cons x l ih =>
        rw [List.cons_append, List.length_cons, show l.length + 1 + k = (l.length + k) + 1 by omega]
        cases n <;> simpa only [subL] using ih
    simp only [catL, List.flatMap_cons, List.append_assoc] at ih ⊢
    rw [show (i + 1) * sz = (cellsL y).length + i * sz by rw [hlen, Nat.succ_mul]; omega, this]
    exact ih
theorem updL_right (vs sp : List Value) : ∀ (l : List Value) (k : Nat) {r : List Value}, updL l k vs = some r → updL (l ++ sp) k vs = some (r ++ sp) := by
  induction vs with
  | nil =>
    intro l k
    induction l generalizing k with
    | nil => intro r h; cases k with
      | zero => simp only [updL] at h; injection h with h; subst h; cases sp <;> rfl
      | succ k => simp [updL] at h
    | cons x l ih =>
      intro r h
      cases k with
      | zero => simp only [updL] at h; injection h with h; subst h; rfl
      | succ k =>
        simp only [updL] at h
        split at h
        · rename_i r' hr'; injection h with h; subst h
          simp only [List.cons_append, updL, ih k hr']
        · cases h
  | cons v vs ihv =>
    intro l k
    induction l generalizing k with
    | nil => intro r h; cases k <;> simp [updL] at h
    | cons x l ih =>
      intro r h
      cases k with
      | zero =>
        simp only [updL] at h
        split at h
        · rename_i r' hr'; injection h with h; subst h
          simp only [List.cons_append, updL, ihv l 0 hr']
        · cases h
      | succ k =>
        simp only [updL] at h
        split at h
        · rename_i r' hr'; injection h with h; subst h
          simp only [List.cons_append, updL, ih k hr']
        · cases h
def shapeOk (ti : TI) (x : AV) : Bool := match ti.agg with
  | true => match x with
    | .ag _ => true
    | _ => false
  | false => x.one
theorem A.loadRow {all : Array Oper} {o : Oper} {l : List Oper} {ks : List (Nat × Bool)} {t : TypeId} {p : Operand} {z : Value} {sz sz' i : Nat} {xs : List AV} {ti : TI} {y y' : AV} {E' : AEnv}
    (hg : gyesA E all o.guard = some ks) (ho : o.op = .load t p) (hp : E.ev K.gs ks p = some (.ep z sz' i)) (ht : K.S.get t = some ti) [j : ARow Λ z sz xs] (hs : Nat.beq ti.size sz = true) (hs' : Nat.beq sz' sz = true) (hsh : shapeOk ti y' = true)
    (hy : xs[i]? = some y) (hy' : y = y') (hput : E.put K.n none o.dst y' = some E') (next : A K (.ops all l :: k) E' Λ) : A K (.ops all (o :: l) :: k) E Λ := by
  subst hy'
  refine ⟨fun h e L hl r q => ?_⟩
  have hs := Nat.eq_of_beq_eq_true hs
  have hs' := Nat.eq_of_beq_eq_true hs'
  subst hs'
  obtain ⟨v1, e1, f1⟩ := r.ev (K.hgs.mono hl) _ hp
  rw [Rp_ep] at f1
  obtain ⟨b, off, n, cap, rfl, hin, rfl⟩ := f1
  obtain ⟨M, m1, pp, ⟨a, cap', zs, g1, g2, g3, g4, g5⟩, rfl⟩ := q.mem j.mem
  injection g1 with g1 g1' g1''
  subst g1; subst g1'; subst g1''
  rcases g5 with ⟨g5, _⟩ | ⟨b', off', sp, g6, rfl, g9⟩
  · subst g5; simp at hy
  · injection g6 with g6; injection g6 with g6 g7; subst g6; subst g7
    obtain ⟨u, hu, hrp⟩ := g3.rp.at hy
    have hsub := catL_sub (sp := sp) g3.sz hu
    have hld : ldV ti ⟨b, off, catL zs ++ sp, none⟩ (off + i * sz') = some u := by
      have hle : Nat.ble off (off + i * sz') = true := Nat.ble_eq_true_of_le (Nat.le_add_right _ _)
      unfold ldV
      simp only [hle, Nat.add_sub_cancel_left]
      unfold partv
      unfold shapeOk at hsh
      cases hag : ti.agg with
      | true =>
        rw [hag] at hsh
        simp only at hsh ⊢
        rw [hs, hsub]
        split at hsh
        · rw [Rp_ag] at hrp
          obtain ⟨cs, rfl, _⟩ := hrp
          rfl
        · cases hsh
      | false =>
        rw [hag] at hsh
        simp only at hsh ⊢
        have hone := hrp.one hsh
        have hc1 := cellsL_one hone
        have hsz1 : sz' = 1 := by have := g3.sz u (List.mem_of_getElem? hu); rw [hc1] at this; simpa using this.symm
        rw [hsz1, hc1] at hsub
        obtain ⟨_, _, h3⟩ := subL_spec _ _ _ hsub
        have := h3 0 (by omega)
        rw [nthL_eq, hsz1]
        simpa using this.symm
    obtain ⟨e', e4, e5⟩ := putA_eq r hput hrp
    exact V.loadY (C := K.cfg) (gyesA_eq r hg) ho e1 ht (i := ⟨List.mem_append_left _ (m1 _ (List.mem_singleton.2 rfl)), rfl⟩) hld e4 (next.run h e' L hl e5 q)
theorem A.storeRow {all : Array Oper} {o : Oper} {l : List Oper} {ks : List (Nat × Bool)} {t : TypeId} {p y : Operand} {z : Value} {sz sz' i : Nat} {xs xs' : List AV} {ti : TI} {v : AV} {Λ' : List AEnt}
    (hg : gyesA E all o.guard = some ks) (ho : o.op = .store t p y) (hp : E.ev K.gs ks p = some (.ep z sz' i)) (hy : E.ev K.gs ks y = some v) (ht : K.S.get t = some ti) [j : ARow Λ z sz xs] (hs : Nat.beq ti.size sz = true) (hs' : Nat.beq sz' sz = true) (hok : eltOk ti v = true)
    (hd : o.dst = none) (hi : i < xs.length) (hx : xs.set i v = xs') [u : ARowUp Λ z sz xs xs' Λ'] (next : A K (.ops all l :: k) E Λ') : A K (.ops all (o :: l) :: k) E Λ := by
  subst hx
  refine ⟨fun h e L hl r q => ?_⟩
  have hs := Nat.eq_of_beq_eq_true hs
  have hs' := Nat.eq_of_beq_eq_true hs'
  subst hs'
  obtain ⟨v1, e1, f1⟩ := r.ev (K.hgs.mono hl) _ hp
  obtain ⟨v2, e2, f2⟩ := r.ev (K.hgs.mono hl) _ hy
  rw [Rp_ep] at f1
  obtain ⟨b, off, n, cap, rfl, hin, rfl⟩ := f1
  obtain ⟨Λ1, Λ2, d1, d2⟩ := u.split
  subst d1; subst d2
  obtain ⟨L1, M, L2, rfl, q1, ⟨pp, ⟨a, cap', zs, g1, g2, g3, g4, g5⟩, rfl⟩, q3⟩ := q.mid
  injection g1 with g1 g1' g1''
  subst g1; subst g1'; subst g1''
  rcases g5 with ⟨g5, _⟩ | ⟨b', off', sp, g6, rfl, g9⟩
  · subst g5; simp at hi
  · injection g6 with g6; injection g6 with g6 g7; subst g6; subst g7
    obtain ⟨c1, c2, _⟩ := eltOk_rp hok f2
    rw [hs] at c1
    obtain ⟨zs', b1, b2⟩ := g3.upd f2 c1 c2 (setA_eq hi)
    have hst : stV ti ⟨b, off, catL zs ++ sp, none⟩ (off + i * sz') v2 = some ⟨b, off, catL zs' ++ sp, none⟩ := by
      have h1 : Nat.beq (cellsL v2).length ti.size = true := by rw [c1, hs]; simp
      have hle : Nat.ble off (off + i * sz') = true := Nat.ble_eq_true_of_le (Nat.le_add_right _ _)
      simp only [stV, h1, hle, c2, Nat.add_sub_cancel_left, updL_right _ sp _ _ b2]
    have i' : EntAt ((L1 ++ ([⟨b, off, catL zs ++ sp, none⟩] ++ L2)) ++ K.F) b ⟨b, off, catL zs ++ sp, none⟩ := ⟨by simp, rfl⟩
    have j' : EntUp ((L1 ++ ([⟨b, off, catL zs ++ sp, none⟩] ++ L2)) ++ K.F) b ⟨b, off, catL zs ++ sp, none⟩ ⟨b, off, catL zs' ++ sp, none⟩ ((L1 ++ ([⟨b, off, catL zs' ++ sp, none⟩] ++ L2)) ++ K.F) := ⟨L1, L2 ++ K.F, by simp, by simp⟩
    have hlen : (xs.set i v).length = xs.length := List.length_set
    exact V.store (C := K.cfg) (gyesA_eq r hg) ho e1 e2 ht (i := i') hst (j := j') hd (next.run h e _ hl r (RpL.mid_of q1 ⟨_, ⟨some ⟨b, off, none⟩, cap, zs', by rw [hlen], by rw [hlen]; exact g2, b1, rfl, .inr ⟨b, off, sp, rfl, rfl, by rw [hlen]; exact g9⟩⟩, rfl⟩ q3))
/-- many rows: one taken out, and put back -/
theorem RpRows.append {h : GH} {sz : Nat} : ∀ {hs hs' : List (Value × List AV)} {L L' : List Ent}, RpRows h sz hs L → RpRows h sz hs' L' → RpRows h sz (hs ++ hs') (L ++ L')
  | [], _, _, _, a, b => by cases a; exact b
  | (z, l) :: r, _, _, _, ⟨p, L1, h1, h2, h3⟩, b => by subst h1; exact ⟨p, _, rfl, h2, RpRows.append h3 b⟩
theorem RpRows.split {h : GH} {sz : Nat} : ∀ {hs hs' : List (Value × List AV)} {L : List Ent}, RpRows h sz (hs ++ hs') L → ∃ L1 L2, L = L1 ++ L2 ∧ RpRows h sz hs L1 ∧ RpRows h sz hs' L2
  | [], _, L, a => ⟨[], L, rfl, rfl, a⟩
  | (z, l) :: r, _, _, ⟨p, L1, h1, h2, h3⟩ => by
    obtain ⟨L2, L3, g1, g2, g3⟩ := RpRows.split h3
    subst h1; subst g1
    exact ⟨p :: L2, L3, rfl, ⟨p, L2, rfl, h2, g2⟩, g3⟩
/-- the same memory, told otherwise -/
theorem A.ents {Λ' : List AEnt} (hq : ∀ h L, RpL h Λ L → ∃ L', RpL h Λ' L' ∧ L.Perm L') (next : A K k E Λ') : A K k E Λ := by
  refine ⟨fun h e L hl r q => ?_⟩
  obtain ⟨L', q1, q2⟩ := hq h L q
  exact V.perm (q2.append_right _) (next.run h e L' hl r q1)

end
end Go.Tp
