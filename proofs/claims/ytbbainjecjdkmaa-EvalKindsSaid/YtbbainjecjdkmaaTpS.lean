/-
  (TpS: append to a slice of the function's own; make; slices of slices.)
-/
import Derived.Test.YtbbainjecjdkmaaTpJ
namespace Go.Tp
open Go Go.RowKit
set_option linter.unusedVariables false

/-- a slice value whose elements' cells lie in the ghost heap -/
def Sl (h : GH) (sz : Nat) (v : Value) (cs : List Value) : Prop :=
  ∃ a n c, v = .slice a n c ∧ n ≤ c ∧ cs.length = n * sz ∧ (0 < n → ∃ b o, a = some ⟨b, o, none⟩ ∧ atH h b o cs)
theorem Sl.mono {h h' : GH} (hl : h.le h') {sz : Nat} {v : Value} {cs : List Value} (x : Sl h sz v cs) : Sl h' sz v cs := by
  obtain ⟨a, n, c, x1, x2, x3, x4⟩ := x
  exact ⟨a, n, c, x1, x2, x3, fun hn => let ⟨b, o, y1, y2⟩ := x4 hn; ⟨b, o, y1, y2.mono hl⟩⟩
theorem Sl.nil (h : GH) (sz : Nat) : Sl h sz (.slice none 0 0) [] := ⟨none, 0, 0, rfl, Nat.le_refl _, by simp, fun hn => by omega⟩

/-- the spare places behind a slice that the function itself made -/
def Tl (sz : Nat) (v : Value) (x : Ent) : Prop :=
  x.obj = none ∧ ∃ a n c, v = .slice a n c ∧ ((a = none ∧ n = 0 ∧ c = 0 ∧ x.cs = []) ∨ ∃ b o, a = some ⟨b, o, none⟩ ∧ n ≤ c ∧ x.b = b ∧ x.lo = o + n * sz ∧ x.cs.length = (c - n) * sz)
theorem Tl.nil (sz : Nat) : Tl sz (.slice none 0 0) ⟨0, 0, [], none⟩ := ⟨rfl, none, 0, 0, rfl, .inl ⟨rfl, rfl, rfl, rfl⟩⟩

theorem V.empty {C : Cfg} {k : List It} {e : Env} {h : GH} {L : List Ent} (hv : V C k e h (⟨0, 0, [], none⟩ :: L)) : V C k e h L :=
  fun ho a w b cs g s hf hk => hv ho a w b cs g ⟨s.below, s.imm, s.imm1, fun p hp => by
    rcases List.mem_cons.1 hp with rfl | hp
    · exact ⟨fun v hv => by simp at hv, fun i v hv => by simp at hv, fun i hi => by simp at hi, fun i hi => by simp at hi, fun i hi => by simp at hi, fun o ho => by cases ho⟩
    · exact s.own p hp, List.pairwise_cons.2 ⟨fun q hq => ⟨fun i j hi => by simp at hi, fun x => by cases x⟩, s.dis⟩, s.frz⟩ hf hk

theorem run_firstCells {P : Program} {w : World} {h : GH} {sz : Nat} {v : Value} {cs : List Value} (himm : ∀ b o v, h b o = some v → w.cell? ⟨b, o, none⟩ = some v) (x : Sl h sz v cs) (hsz : 0 < sz) :
    ∃ n, Builtin.lenOf v = pure n ∧ cs.length = n * sz ∧ (Builtin.firstCells sz n v).run P w = .ok ⟨cs⟩ w := by
  obtain ⟨a, n, c, rfl, x2, x3, x4⟩ := x
  refine ⟨n, rfl, x3, ?_⟩
  by_cases hn : 0 < n
  · obtain ⟨b, o, rfl, y2⟩ := x4 hn
    simp only [Builtin.firstCells]
    rw [← x3]
    exact run_loadCellsAt fun i u hu => himm _ _ _ (y2 i u hu)
  · have : n = 0 := by omega
    subst this
    have : cs = [] := List.length_eq_zero_iff.1 (by simpa using x3)
    subst this
    cases a with
    | none => rfl
    | some a => simp [Builtin.firstCells, loadCells, loadCellsFrom]

theorem zeroCells_eq (z : List Value) (n : Nat) (hz : z ≠ []) : Builtin.zeroCells ⟨z⟩ n = ⟨(List.replicate n z).flatten⟩ := by
  have := flatten_replicate_mod z hz n
  simpa [Builtin.zeroCells] using this

theorem allOne_append {l r : List Value} (h1 : ∀ v, v ∈ l → oneC v = true) (h2 : ∀ v, v ∈ r → oneC v = true) : ∀ v, v ∈ l ++ r → oneC v = true := fun v hv => by
  rcases List.mem_append.1 hv with h | h
  · exact h1 v h
  · exact h2 v h

theorem Sl.one {w0 w : World} {h : GH} {L : List Ent} {sz : Nat} {v : Value} {cs : List Value} (s : St w0 h L w) (hsz : 0 < sz) (x : Sl h sz v cs) : ∀ u, u ∈ cs → oneC u = true := by
  obtain ⟨a, n, c, rfl, x2, x3, x4⟩ := x
  intro u hu
  have hn : 0 < n := by
    rcases Nat.eq_zero_or_pos n with e | e
    · subst e; have : cs = [] := List.length_eq_zero_iff.1 (by simpa using x3); subst this; cases hu
    · exact e
  obtain ⟨b, o, _, y⟩ := x4 hn
  obtain ⟨i, hi⟩ := List.getElem?_of_mem hu
  exact s.imm1 _ _ _ (y i u hi)

theorem updL_ex : ∀ (l : List Value) (us : List Value), us.length ≤ l.length → ∃ r', updL l 0 us = some r'
  | [], us, hk => by have : us = [] := List.length_eq_zero_iff.1 (by simpa using hk); subst this; exact ⟨[], rfl⟩
  | c :: l, [], _ => ⟨c :: l, rfl⟩
  | c :: l, u :: us, hk => by
    obtain ⟨r', hr'⟩ := updL_ex l us (by simp at hk; omega)
    exact ⟨u :: r', by simp [updL, hr']⟩

theorem tl_grow {w0 w : World} {h : GH} {L : List Ent} {x : Ent} {sz : Nat} {zs : List Value} {el : TypeId} {nc need : Nat} {cs : List Value} (s : St w0 h (x :: L) w) (h1 : ∀ v, v ∈ cs → oneC v = true) (hz1 : allOne zs = true) (hzl : zs.length = sz)
    (hlen : cs.length = need * sz) (hnc : need ≤ nc) {arr : Array Value} (harr : arr = ⟨cs ++ (List.replicate (nc - need) zs).flatten⟩) :
    ∃ h' x', h.le h' ∧ Sl h' sz (.slice (some ⟨w.heap.size, 0, none⟩) need nc) cs ∧ Tl sz (.slice (some ⟨w.heap.size, 0, none⟩) need nc) x' ∧ St w0 h' (x' :: L) (w.drew.alloc (.cells arr el)) := by
  have honer : ∀ v, v ∈ (List.replicate (nc - need) zs).flatten → oneC v = true := fun v hv => by
    obtain ⟨l, hl, hvl⟩ := List.mem_flatten.1 hv
    have := (List.mem_replicate.1 hl).2
    subst this
    exact allOne_mem hz1 v hvl
  have hone : allOne arr.toList = true := by rw [harr]; exact allOne_of (allOne_append h1 honer)
  have s1 : St w0 h (x :: L) w.drew := s.drew
  have s3 := s1.tail.alloc arr el hone
  rw [harr] at s3 ⊢
  have s4 := St.part s3
  have s5 := s4.publish
  refine ⟨_, _, s4.le_add, ⟨_, _, _, rfl, hnc, hlen, fun _ => ⟨_, 0, rfl, fun i v hv => GH.add_at h _ 0 cs hv⟩⟩, ⟨rfl, _, _, _, rfl, .inr ⟨_, 0, rfl, hnc, rfl, ?_, ?_⟩⟩, s5⟩
  · simp only [Nat.zero_add, hlen]
  · simp only [List.length_flatten, List.map_replicate, List.sum_replicate_nat, hzl]

theorem run_append {P : Program} {S : TT} (hS : S.Ok P) {w0 w : World} {h : GH} {L : List Ent} {x : Ent} {t el ty : TypeId} {ti ei : TI} {v1 v2 : Value} {c1 c2 : List Value}
    (ht : S.get t = some ti) (hd : ti.d = .slice el) (he : S.get el = some ei) (hsz : 0 < ei.size) (hz1 : allOne ei.zero = true) (hby : ei.bytes ≤ 4096)
    (s : St w0 h (x :: L) w) (a1 : Sl h ei.size v1 c1) (tl : Tl ei.size v1 x) (a2 : Sl h ei.size v2 c2) (hb : c1.length + c2.length ≤ 1073741824) :
    ∃ v' w' h' x', (Builtin.append_ #[t, t] ty #[v1, v2]).run P w = .ok v' w' ∧ h.le h' ∧ Sl h' ei.size v' (c1 ++ c2) ∧ Tl ei.size v' x' ∧ St w0 h' (x' :: L) w' := by
  have ok := TT.Ok.get hS ht
  have oke := TT.Ok.get hS he
  obtain ⟨xi, zv, hxi, hxs, hxb, hxz, hzl⟩ := oke.info
  have hund : P.underlying t = some (.slice el) := by rw [ok.und, hd]
  have one2 := Sl.one s hsz a2
  have one1 := Sl.one s hsz a1
  have a1' := a1
  have tl' := tl
  obtain ⟨a, n1, cap, e1, hle, hn1, hat⟩ := a1
  obtain ⟨b2, n2, cap2, e2, hle2, hn2, hat2⟩ := a2
  obtain ⟨hobj, ta, tn, tc, e3, htl⟩ := tl
  subst e1; subst e2
  injection e3 with e3 e4 e5
  subst e3; subst e4; subst e5
  have hl1 : n1 ≤ c1.length := by rw [hn1]; exact Nat.le_mul_of_pos_right _ hsz
  have hl2 : n2 ≤ c2.length := by rw [hn2]; exact Nat.le_mul_of_pos_right _ hsz
  have hz : Builtin.zeroCells zv.cells = fun n => ⟨(List.replicate n ei.zero).flatten⟩ := by
    funext n
    rw [show zv.cells = ⟨ei.zero⟩ from by rw [← hzl]]
    refine zeroCells_eq _ _ ?_
    intro e
    have := oke.len
    rw [e] at this; simp at this; omega
  have hlen : (c1 ++ c2).length = (n1 + n2) * ei.size := by rw [List.length_append, hn1, hn2, Nat.add_mul]
  rcases Nat.eq_zero_or_pos n2 with h20 | h2p
  · -- nothing to lay
    subst h20
    have hc2 : c2 = [] := List.length_eq_zero_iff.1 (by simpa using hn2)
    subst hc2
    refine ⟨.slice a n1 cap, w, h, x, ?_, GH.le_refl _, by simpa using a1', tl', s⟩
    have hf : ∀ w' : World, (Builtin.firstCells xi.size 0 (.slice b2 0 cap2)).run P w' = .ok #[] w' := fun w' => by cases b2 <;> simp [Builtin.firstCells, loadCells, loadCellsFrom]
    cases a with
    | none => simp [Builtin.append_, Go.run_underlying hund, sizeOf, typeInfo, hxi, Builtin.lenOf, hle, hf]
    | some a => simp [Builtin.append_, Go.run_underlying hund, sizeOf, typeInfo, hxi, Builtin.lenOf, hle, hf, storeCells]
  · obtain ⟨b, o2, rfl, y2⟩ := hat2 h2p
    have hnews : ∀ j u, c2[j]? = some u → w.cell? ((⟨b, o2, none⟩ : Addr).add j) = some u := fun j u hu => by rw [add_norm]; exact s.imm _ _ _ (y2 j u hu)
    have h63 : ((n1 + n2 : Nat) : Int) ≤ 9223372036854775807 := by omega
    have hfits : ∀ old, old < n1 + n2 → Builtin.nextslicecap (n1 + n2) old * xi.bytes ≤ 281474976710656 := fun old ho => growslice_fits ho (by
      rw [hxb]
      have : (n1 + n2) * ei.bytes ≤ 1073741824 * 4096 := Nat.mul_le_mul (by omega) hby
      omega)
    rcases htl with ⟨rfl, h0, h1, h2⟩ | ⟨bb, o, rfl, h0, h1, h2, h3⟩
    · -- from nothing
      subst h0; subst h1
      have hc1 : c1 = [] := List.length_eq_zero_iff.1 (by simpa using hn1)
      subst hc1
      have hr := run_append_nil (P := P) w t ty el xi zv hund hxi hxz ⟨b, o2, none⟩ n2 cap2 c2 (by rw [hxs]; exact hn2) hnews h2p (by omega) (by
        rw [hxb]
        have : n2 * ei.bytes ≤ 1073741824 * 4096 := Nat.mul_le_mul (by omega) hby
        omega)
      obtain ⟨h', x', g1, g2, g3, g4⟩ := tl_grow (w := w) (el := el) (nc := grownCap w n2 0 el) (need := n2) s one2 hz1 oke.len hn2 (grownCap_ge ..) (arr := c2.toArray ++ Builtin.zeroCells zv.cells (grownCap w n2 0 el - n2)) (by rw [hz]; apply Array.ext'; simp)
      exact ⟨_, _, h', x', hr, g1, by simpa using g2, g3, g4⟩
    · by_cases hcap : n1 + n2 ≤ cap
      · obtain ⟨bx, lox, csx, obx⟩ := x
        simp only at hobj h1 h2 h3
        subst hobj; subst h1; subst h2
        obtain ⟨r, hr⟩ := updL_ex csx c2 (by rw [h3, hn2]; exact Nat.mul_le_mul_right _ (by omega))
        obtain ⟨u1, u2, u3⟩ := updL_spec _ _ _ hr
        obtain ⟨w', hw', s'⟩ := run_storeCells (P := P) c2 bx (o + n1 * ei.size) 0 w (L1 := []) s rfl (by simpa using u1) one2 hr
        have hre : r = c2 ++ csx.drop c2.length := by
          apply List.ext_getElem?
          intro i
          rw [u3 i]
          by_cases hi : i < c2.length
          · rw [if_pos (by omega), List.getElem?_append_left hi]; rfl
          · rw [if_neg (by omega), List.getElem?_append_right (by omega), List.getElem?_drop]; congr 1; omega
        subst hre
        have s2 := St.part s'
        have s3 := s2.publish
        have hle' := s2.le_add
        have hf := run_firstCells_some (P := P) w ei.size n2 ⟨b, o2, none⟩ n2 cap2 c2 hn2 hnews
        refine ⟨.slice (some ⟨bx, o, none⟩) (n1 + n2) cap, w', _, _, ?_, hle', ?_, ?_, s3⟩
        · simp [Builtin.append_, Go.run_underlying hund, sizeOf, typeInfo, hxi, Builtin.lenOf, hcap, hxs, hf, add_norm, hw']
        · refine ⟨_, _, _, rfl, hcap, hlen, fun hpos => ⟨bx, o, rfl, fun i u hu => ?_⟩⟩
          by_cases hi : i < c1.length
          · rw [List.getElem?_append_left hi] at hu
            have hp : 0 < n1 := by
              rcases Nat.eq_zero_or_pos n1 with e | e
              · subst e; simp at hn1; subst hn1; simp at hi
              · exact e
            obtain ⟨b', o', e, y⟩ := hat hp
            injection e with e; injection e with e1 e2; subst e1; subst e2
            exact hle' _ _ _ (y i u hu)
          · rw [List.getElem?_append_right (by omega)] at hu
            have := GH.add_at h bx (o + n1 * ei.size) c2 hu
            rwa [show o + n1 * ei.size + (i - c1.length) = o + i by rw [← hn1]; omega] at this
        · refine ⟨rfl, _, _, _, rfl, .inr ⟨bx, o, rfl, hcap, rfl, ?_, ?_⟩⟩
          · simp only [hn2, Nat.add_mul]; omega
          · simp only [List.length_drop, h3, hn2]
            rw [← Nat.sub_mul]; congr 1; omega
      · have hlt : cap < n1 + n2 := by omega
        have holds : ∀ j u, c1[j]? = some u → w.cell? ((⟨bb, o, none⟩ : Addr).add j) = some u := fun j u hu => by
          have hp : 0 < n1 := by
            rcases Nat.eq_zero_or_pos n1 with e | e
            · subst e; simp at hn1; subst hn1; simp at hu
            · exact e
          obtain ⟨b', o', e, y⟩ := hat hp
          injection e with e; injection e with e1 e2; subst e1; subst e2
          rw [add_norm]; exact s.imm _ _ _ (y j u hu)
        have hr := run_append_grow (P := P) w t ty el xi zv hund hxi hxz ⟨bb, o, none⟩ n1 cap c1 (by rw [hxs]; exact hn1) holds ⟨b, o2, none⟩ n2 cap2 c2 (by rw [hxs]; exact hn2) hnews hlt h63 (hfits cap hlt)
        obtain ⟨h', x', g1, g2, g3, g4⟩ := tl_grow (w := w) (el := el) (nc := grownCap w (n1 + n2) cap el) (need := n1 + n2) s (allOne_append one1 one2) hz1 oke.len hlen (grownCap_ge ..)
          (arr := c1.toArray ++ c2.toArray ++ Builtin.zeroCells zv.cells (grownCap w (n1 + n2) cap el - (n1 + n2))) (by rw [hz]; apply Array.ext'; simp)
        exact ⟨_, _, h', x', hr, g1, g2, g3, g4⟩

/-- append to a slice of the function's own, its spare places at the head of the entries -/
theorem V.append {C : Cfg} {k : List It} {e : Env} {h : GH} {L : List Ent} {all : Array Oper} {o : Oper} {l : List Oper} {ks : List (Nat × Bool)} {y1 y2 : Operand} {t el : TypeId} {ti ei : TI} {v1 v2 : Value} {x : Ent} {c1 c2 : List Value} {d : Nat}
    (hg : gyes e all o.guard = some ks) (ho : o.op = .call ⟨.builtin .append, #[y1, y2], #[t, t]⟩) (h1 : e.ev ks y1 = some v1) (h2 : e.ev ks y2 = some v2)
    (ht : C.S.get t = some ti) (hd : ti.d = .slice el) (he : C.S.get el = some ei) (hsz : Nat.blt 0 ei.size = true) (hz1 : allOne ei.zero = true) (hby : Nat.ble ei.bytes 4096 = true)
    (hdst : o.dst = some d) (hc : okPut C.n e d = true)
    (a1 : Sl h ei.size v1 c1) (tl : Tl ei.size v1 x) (a2 : Sl h ei.size v2 c2) (hb : c1.length + c2.length ≤ 1073741824)
    (next : ∀ v' h' x', h.le h' → Sl h' ei.size v' (c1 ++ c2) → Tl ei.size v' x' → V C (.ops all l :: k) ⟨(d, v') :: e.us, e.cs⟩ h' (x' :: L)) : V C (.ops all (o :: l) :: k) e h (x :: L) :=
  V.gives hg hdst hc fun a w g s hk => by
    obtain ⟨v', w', h', x', r1, r2, r3, r4, r5⟩ := run_append (ty := o.type) C.ok ht hd he (by simpa [Nat.blt_eq] using hsz) hz1 (Nat.le_of_ble_eq_true hby) s a1 tl a2 hb
    refine ⟨v', w', h', _, ?_, r5, next v' h' x' r2 r3 r4⟩
    unfold execOp
    rw [ho]
    simp [resolve, invoke, builtin, g.ev hk h1, g.ev hk h2, r1]

/-! ### a function's promise, weakened -/
theorem Does.is {P : Program} {w0 : World} {f : FuncId} {args : List Value} {h : GH} {L : List Ent} {x : Value} (hf : Does P w0 f args h L (fun v h' L' => v = x ∧ h.le h' ∧ L.Sublist L')) : Does P w0 f args h L (Is x h L) :=
  ⟨hf.1, fun w s => (hf.2 w s).mono fun _ _ ⟨v, h', L', e1, ⟨e2, e3, e4⟩, e5⟩ => ⟨v, h, L, e1, ⟨e2, rfl, rfl⟩, (e5.less e3).sub e4⟩⟩
/-- new memory, and what it holds -/
def Res (h : GH) (L : List Ent) (Q : Value → GH → Prop) : Value → GH → List Ent → Prop := fun v h' L' => L' = L ∧ h.le h' ∧ Q v h'
theorem Does.res {P : Program} {w0 : World} {f : FuncId} {args : List Value} {h : GH} {L : List Ent} {Q : Value → GH → Prop} (hf : Does P w0 f args h L (fun v h' L' => h.le h' ∧ L.Sublist L' ∧ Q v h')) : Does P w0 f args h L (Res h L Q) :=
  ⟨hf.1, fun w s => (hf.2 w s).mono fun _ _ ⟨v, h', L', e1, ⟨e2, e3, e4⟩, e5⟩ => ⟨v, h', L, e1, ⟨rfl, e2, e4⟩, e5.sub e3⟩⟩
theorem Does.resL {P : Program} {w0 : World} {f : FuncId} {args : List Value} {h : GH} {L : List Ent} {Q : Value → GH → List Ent → Prop} (hf : Does P w0 f args h L (fun v h' L' => ∃ L'', L''.Sublist L' ∧ Q v h' L'')) : Does P w0 f args h L Q :=
  ⟨hf.1, fun w s => (hf.2 w s).mono fun _ _ ⟨v, h', L', e1, ⟨L'', e2, e3⟩, e5⟩ => ⟨v, h', L'', e1, e3, e5.sub e2⟩⟩
theorem Is.any {x : Value} {h : GH} {L : List Ent} : ∀ v h' L', Is x h L v h' L' → v = x ∧ h' = h ∧ L' = L := fun _ _ _ q => q

#print axioms V.append
end Go.Tp
