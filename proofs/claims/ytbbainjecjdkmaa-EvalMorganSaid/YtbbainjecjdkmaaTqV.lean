/-
  Data: append to a slice that the function itself made and still writes; rows under a slice that changes no more; a call with memory lent.
-/
import Derived.Test.YtbbainjecjdkmaaTqU
namespace Go.Tp
open Go Go.RowKit
set_option linter.unusedVariables false
set_option linter.unusedSimpArgs false

/-- the cells of a slice and all its spare places are owned -/
def Ow (sz : Nat) (a : Option Addr) (n cap : Nat) (cs : List Value) (x : Ent) : Prop :=
  x.obj = none ∧ n ≤ cap ∧ cs.length = n * sz ∧ ((x.cs = [] ∧ cap = 0 ∧ ∀ y, a = some y → y.spot = none) ∨ ∃ b o sp, a = some ⟨b, o, none⟩ ∧ x = ⟨b, o, cs ++ sp, none⟩ ∧ sp.length = (cap - n) * sz)
theorem updL_at (vs r : List Value) : ∀ (l sp : List Value), updL sp 0 vs = some r → updL (l ++ sp) l.length vs = some (l ++ r)
  | [], sp, h => h
  | x :: l, sp, h => by
    have := updL_at vs r l sp h
    cases vs with
    | nil => simp only [List.cons_append, List.length_cons, updL, this]
    | cons v vs => simp only [List.cons_append, List.length_cons, updL, this]
theorem run_appendOwn {P : Program} {S : TT} (hS : S.Ok P) {w0 w : World} {h : GH} {L : List Ent} {x : Ent} {t el ty : TypeId} {ti ei : TI} {a : Option Addr} {n1 cap : Nat} {v2 : Value} {c1 c2 : List Value}
    (ht : S.get t = some ti) (hd : ti.d = .slice el) (he : S.get el = some ei) (hsz : 0 < ei.size) (hz1 : allOne ei.zero = true) (one1 : ∀ v, v ∈ c1 → oneC v = true)
    (s : St w0 h (x :: L) w) (ow : Ow ei.size a n1 cap c1 x) (a2 : Sl h ei.size v2 c2) (hb : c1.length + c2.length ≤ 281474976710656) (hby : (c1.length + c2.length) * ei.bytes ≤ 140737488355328) :
    ∃ w' x' a' n' cap', (Builtin.append_ #[t, t] ty #[.slice a n1 cap, v2]).run P w = .ok (.slice a' n' cap') w' ∧ St w0 h (x' :: L) w' ∧ Ow ei.size a' n' cap' (c1 ++ c2) x' := by
  have ok := TT.Ok.get hS ht
  have oke := TT.Ok.get hS he
  obtain ⟨xi, zv, hxi, hxs, hxb, hxz, hzl⟩ := oke.info
  have hund : P.underlying t = some (.slice el) := by rw [ok.und, hd]
  have one2 := Sl.one s hsz a2
  obtain ⟨b2, n2, cap2, e2, hle2, hn2, hat2⟩ := a2
  have ow0 := ow
  obtain ⟨hobj, hle, hn1, how⟩ := ow
  subst e2
  have hl1 : n1 ≤ c1.length := by rw [hn1]; exact Nat.le_mul_of_pos_right _ hsz
  have hl2 : n2 ≤ c2.length := by rw [hn2]; exact Nat.le_mul_of_pos_right _ hsz
  have hz : Builtin.zeroCells zv.cells = fun n => ⟨(List.replicate n ei.zero).flatten⟩ := by
    funext n
    rw [show zv.cells = ⟨ei.zero⟩ from by rw [← hzl]]
    refine zeroCells_eq _ _ ?_
    intro e
    have := oke.len
    rw [e] at this; simp at this; omega
  have hlen : (c1 ++ c2).length = (n1 + n2) * ei.size := by rw [List.length_append, hn1, hn2, Nat.add_mul]
  rcases Nat.eq_zero_or_pos n2 with h20 | h2p
  · subst h20
    have hc2 : c2 = [] := List.length_eq_zero_iff.1 (by simpa using hn2)
    subst hc2
    refine ⟨w, x, a, n1, cap, ?_, s, by simpa using ow0⟩
    have hf : ∀ w' : World, (Builtin.firstCells xi.size 0 (.slice b2 0 cap2)).run P w' = .ok #[] w' := fun w' => by cases b2 <;> simp [Builtin.firstCells, loadCells, loadCellsFrom]
    cases a with
    | none => simp [Builtin.append_, Go.run_underlying hund, sizeOf, typeInfo, hxi, Builtin.lenOf, hle, hf]
    | some a => simp [Builtin.append_, Go.run_underlying hund, sizeOf, typeInfo, hxi, Builtin.lenOf, hle, hf, storeCells]
  · obtain ⟨b, o2, rfl, y2⟩ := hat2 h2p
    have hnews : ∀ j u, c2[j]? = some u → w.cell? ((⟨b, o2, none⟩ : Addr).add j) = some u := fun j u hu => by rw [add_norm]; exact s.imm _ _ _ (y2 j u hu)
    have h63 : ((n1 + n2 : Nat) : Int) ≤ 9223372036854775807 := by omega
    have hbb : (n1 + n2) * ei.bytes ≤ 140737488355328 := Nat.le_trans (Nat.mul_le_mul_right _ (by omega)) hby
    have hfits : ∀ old, old < n1 + n2 → Builtin.nextslicecap (n1 + n2) old * xi.bytes ≤ 281474976710656 := fun old ho => growslice_fits ho (by rw [hxb]; omega)
    have hfin : ∀ (cs : List Value) (need nc : Nat), (∀ v, v ∈ cs → oneC v = true) → cs.length = need * ei.size → need ≤ nc → ∀ arr : Array Value, arr = ⟨cs ++ (List.replicate (nc - need) ei.zero).flatten⟩ →
        ∃ x', St w0 h (x' :: L) (w.drew.alloc (.cells arr el)) ∧ Ow ei.size (some ⟨w.heap.size, 0, none⟩) need nc cs x' := fun cs need nc h1 h2 h3 arr harr => by
      have honer : ∀ v, v ∈ (List.replicate (nc - need) ei.zero).flatten → oneC v = true := fun v hv => by
        obtain ⟨l, hl, hvl⟩ := List.mem_flatten.1 hv
        have := (List.mem_replicate.1 hl).2
        subst this
        exact allOne_mem hz1 v hvl
      have := s.tail.drew.alloc arr el (by rw [harr]; exact allOne_of (allOne_append h1 honer))
      rw [harr] at this ⊢
      exact ⟨_, this, rfl, h3, h2, .inr ⟨_, 0, _, rfl, rfl, by simp only [List.length_flatten, List.map_replicate, List.sum_replicate_nat, oke.len]⟩⟩
    rcases how with ⟨g1, g2, g3⟩ | ⟨bb, o, sp, rfl, rfl, g3⟩
    · subst g2
      have h0 : n1 = 0 := by omega
      subst h0
      have hc1 : c1 = [] := List.length_eq_zero_iff.1 (by simpa using hn1)
      subst hc1
      cases a with
      | none =>
        have hr := run_append_nil (P := P) w t ty el xi zv hund hxi hxz ⟨b, o2, none⟩ n2 cap2 c2 (by rw [hxs]; exact hn2) hnews h2p (by omega) (by rw [hxb]; have := hbb; simp at this; omega)
        obtain ⟨x', k1, k2⟩ := hfin c2 n2 (grownCap w n2 0 el) one2 hn2 (grownCap_ge ..) (c2.toArray ++ Builtin.zeroCells zv.cells (grownCap w n2 0 el - n2)) (by rw [hz]; apply Array.ext'; simp)
        exact ⟨_, x', _, _, _, hr, k1, by simpa using k2⟩
      | some y =>
        obtain ⟨bb, o, sp⟩ := y
        have := g3 _ rfl
        simp only at this; subst this
        have hr := run_append_grow (P := P) w t ty el xi zv hund hxi hxz ⟨bb, o, none⟩ 0 0 [] (by simp) (fun j u hu => by simp at hu) ⟨b, o2, none⟩ n2 cap2 c2 (by rw [hxs]; exact hn2) hnews (by omega) (by omega) (hfits 0 (by omega))
        rw [Nat.zero_add] at hr
        obtain ⟨x', k1, k2⟩ := hfin c2 n2 (grownCap w n2 0 el) one2 hn2 (grownCap_ge ..) (([] : List Value).toArray ++ c2.toArray ++ Builtin.zeroCells zv.cells (grownCap w n2 0 el - n2)) (by rw [hz]; apply Array.ext'; simp)
        exact ⟨_, x', _, _, _, hr, k1, by simpa using k2⟩
    · by_cases hcap : n1 + n2 ≤ cap
      · obtain ⟨r, hr⟩ := updL_ex sp c2 (by rw [g3, hn2]; exact Nat.mul_le_mul_right _ (by omega))
        obtain ⟨u1, u2, u3⟩ := updL_spec _ _ _ hr
        have hre : r = c2 ++ sp.drop c2.length := by
          apply List.ext_getElem?
          intro i
          rw [u3 i]
          by_cases hi : i < c2.length
          · rw [if_pos (by omega), List.getElem?_append_left hi]; rfl
          · rw [if_neg (by omega), List.getElem?_append_right (by omega), List.getElem?_drop]; congr 1; omega
        subst hre
        have hup := updL_at c2 _ c1 sp hr
        obtain ⟨w', hw', s'⟩ := run_storeCells (P := P) c2 bb (o + n1 * ei.size) 0 w (L1 := []) (lo := o) (k := c1.length) s (by rw [hn1]; rfl) (by rw [List.length_append]; omega) one2 hup
        have hf := run_firstCells_some (P := P) w ei.size n2 ⟨b, o2, none⟩ n2 cap2 c2 hn2 hnews
        refine ⟨w', _, some ⟨bb, o, none⟩, n1 + n2, cap, ?_, s', rfl, hcap, hlen, .inr ⟨bb, o, sp.drop c2.length, rfl, by rw [List.append_assoc], ?_⟩⟩
        · simp [Builtin.append_, Go.run_underlying hund, sizeOf, typeInfo, hxi, Builtin.lenOf, hcap, hxs, hf, add_norm, hw']
        · rw [List.length_drop, g3, hn2, ← Nat.sub_mul]; congr 1; omega
      · have hlt : cap < n1 + n2 := by omega
        have k0 := s.own _ (List.mem_cons_self ..)
        have holds : ∀ j u, c1[j]? = some u → w.cell? ((⟨bb, o, none⟩ : Addr).add j) = some u := fun j u hu => by
          rw [add_norm]
          refine k0.cell j u ?_
          have hj : j < c1.length := (List.getElem?_eq_some_iff.1 hu).1
          simp only
          rw [List.getElem?_append_left hj]; exact hu
        have hr := run_append_grow (P := P) w t ty el xi zv hund hxi hxz ⟨bb, o, none⟩ n1 cap c1 (by rw [hxs]; exact hn1) holds ⟨b, o2, none⟩ n2 cap2 c2 (by rw [hxs]; exact hn2) hnews hlt h63 (hfits cap hlt)
        obtain ⟨x', k1, k2⟩ := hfin (c1 ++ c2) (n1 + n2) (grownCap w (n1 + n2) cap el) (allOne_append one1 one2) hlen (grownCap_ge ..) (c1.toArray ++ c2.toArray ++ Builtin.zeroCells zv.cells (grownCap w (n1 + n2) cap el - (n1 + n2))) (by rw [hz]; apply Array.ext'; simp)
        exact ⟨_, x', _, _, _, hr, k1, k2⟩
section
variable {K : AC} {k : List It} {E : AEnv} {Λ : List AEnt}
/-- append to a slice of the function's own -/
theorem A.appendRow {all : Array Oper} {o : Oper} {l : List Oper} {ks : List (Nat × Bool)} {y1 y2 : Operand} {t el : TypeId} {ti ei : TI} {x2 : AV} {z : Value} {sz' n : Nat} {l1 l2 : List AV} {own2 : Option Value} {d sz : Nat} {Λ' : List AEnt}
    (hg : gyesA E all o.guard = some ks) (ho : o.op = .call ⟨.builtin .append, #[y1, y2], #[t, t]⟩) (h1 : E.ev K.gs ks y1 = some (.ms z sz' n)) (h2 : E.ev K.gs ks y2 = some x2)
    (ht : K.S.get t = some ti) (hdd : ti.d = .slice el) (he : K.S.get el = some ei) (s2 : slOf ei.size x2 = some (l2, own2)) [i : ARow Λ z sz l1] [j : AOut Λ (.row sz z l1) Λ'] (hse : Nat.beq ei.size sz = true)
    (hsz : Nat.blt 0 ei.size = true) (hz1 : allOne ei.zero = true) (hd : o.dst = some d) (hc : okPutA K.n E d = true)
    (hb : (l1.length + l2.length) * ei.size ≤ 281474976710656) (hby : (l1.length + l2.length) * ei.size * ei.bytes ≤ 140737488355328) (hone : ∀ (h : GH) zs, RpC h l2 zs → ∀ z, z ∈ zs → allOne (cellsL z) = true)
    (next : ∀ z', A K (.ops all l :: k) ⟨(d, .ms z' sz (l1.length + l2.length)) :: E.us, E.cs⟩ (.row sz z' (l1 ++ l2) :: Λ')) : A K (.ops all (o :: l) :: k) E Λ := by
  have hse := Nat.eq_of_beq_eq_true hse
  subst hse
  refine A.perm j.perm ⟨fun h e L hl r q => ?_⟩
  obtain ⟨v1, e1, f1⟩ := r.ev (K.hgs.mono hl) _ h1
  obtain ⟨v2, e2, f2⟩ := r.ev (K.hgs.mono hl) _ h2
  have f2 := slOf_rp s2 f2
  obtain ⟨zs2, b1, b2, b3⟩ := sl_Sl f2
  rw [Rp_ms] at f1
  obtain ⟨rfl, _⟩ := f1
  obtain ⟨M, L2, rfl, ⟨p, q3, rfl⟩, q4⟩ := q
  obtain ⟨a, cap, zs, rfl, g2, g3, g4, g5⟩ := q3
  have hsz' : 0 < ei.size := by simpa [Nat.blt_eq] using hsz
  have hlen1 : (catL zs).length = l1.length * ei.size := by rw [cat_len g3.sz, g3.rp.len]
  have hlen2 : (catL zs2).length = l2.length * ei.size := by rw [cat_len b2, b1.len]
  have how : Ow ei.size a l1.length cap (catL zs) p := ⟨g4, g2, hlen1, g5.elim (fun ⟨_, k2, k3, k4⟩ => .inl ⟨k2, k3, k4⟩) .inr⟩
  refine V.gives (C := K.cfg) (gyesA_eq r hg) hd (okPutA_eq r hc) fun ac w g s hk => ?_
  obtain ⟨w', x', a', n', cap', r1, r2, r3⟩ := run_appendOwn (ty := o.type) K.ok ht hdd he hsz' hz1 (allOne_mem g3.oneAll) s how b3 (by rw [hlen1, hlen2, ← Nat.add_mul]; exact hb) (by rw [hlen1, hlen2, ← Nat.add_mul]; exact hby)
  have hn' : n' = l1.length + l2.length := by
    have := r3.2.2.1
    rw [List.length_append, hlen1, hlen2, ← Nat.add_mul] at this
    exact (Nat.eq_of_mul_eq_mul_right hsz' this).symm
  subst hn'
  refine ⟨_, w', h, _, ?_, r2, (next (.slice a' (l1.length + l2.length) cap')).run h _ (x' :: L2) hl ⟨r.1.put (Rp_ms.2 ⟨rfl, _, _, rfl⟩), r.2⟩ (.one ⟨x', ⟨a', cap', zs ++ zs2, by rw [List.length_append], by rw [List.length_append]; exact r3.2.1, ⟨g3.rp.append b1, fun z hz => ?_, fun z hz => ?_⟩, r3.1, ?_⟩, rfl⟩ q4)⟩
  · unfold execOp
    rw [ho]
    have r1' : Sem.run K.cfg.P (Builtin.append_ #[t, t] o.type #[Value.slice a l1.length cap, v2]) w = Result.ok (Value.slice a' (l1.length + l2.length) cap') w' := r1
    simp [resolve, invoke, builtin, g.ev hk e1, g.ev hk e2, r1']
  · rcases List.mem_append.1 hz with hz | hz
    · exact g3.sz z hz
    · exact b2 z hz
  · rcases List.mem_append.1 hz with hz | hz
    · exact g3.one z hz
    · exact hone h zs2 b1 z hz
  · have hcat : catL (zs ++ zs2) = catL zs ++ catL zs2 := by simp [catL]
    rcases r3.2.2.2 with ⟨k2, k3, k4⟩ | k5
    · refine .inl ⟨?_, k2, k3, k4⟩
      have := r3.2.1
      exact List.length_eq_zero_iff.1 (by rw [List.length_append]; omega)
    · rw [hcat, List.length_append]; exact .inr k5
/-- a call of a function to which memory is lent -/
theorem A.callL {all : Array Oper} {o : Oper} {l : List Oper} {ks : List (Nat × Bool)} {x : Operand} {args : Array Operand} {ts : Array TypeId} {f : FuncId} {fst cap vs args' : List AV} {y : AV} {Λ1 Λ2 : List AEnt} {d : Nat}
    (hg : gyesA E all o.guard = some ks) (ho : o.op = .call ⟨.value x, args, ts⟩) (hx : E.ev K.gs ks x = some (.fn f fst cap)) (ha : evsA (E.ev K.gs ks) args.toList = some vs)
    (hd : o.dst = some d) (hc : okPutA K.n E d = true) (hf : Fun K.P K.gs f args' Λ1 fun z Λ' => z = y ∧ Λ' = Λ1) (hs : SbL (fst ++ (vs ++ cap)) args') (hp : Λ.Perm (Λ1 ++ Λ2))
    (next : A K (.ops all l :: k) ⟨(d, y) :: E.us, E.cs⟩ (Λ1 ++ Λ2)) : A K (.ops all (o :: l) :: k) E Λ :=
  A.call hg ho hx ha hd hc hf hs hp fun _ _ ⟨e1, e2⟩ => (by subst e1; subst e2; exact next)
end
end Go.Tp
