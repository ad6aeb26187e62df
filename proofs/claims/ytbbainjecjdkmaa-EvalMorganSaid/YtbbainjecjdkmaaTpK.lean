/-
  (TpK: expressions of a kernel, as data.)
-/
import Derived.Test.YtbbainjecjdkmaaTpS
namespace Go.Tp
open Go Go.RowKit

inductive KE where
  | mk (kind oper to n v : Int) (l : List KE)

abbrev KE.kind : KE → Int | ⟨k, _, _, _, _, _⟩ => k
abbrev KE.oper : KE → Int | ⟨_, o, _, _, _, _⟩ => o
abbrev KE.to : KE → Int | ⟨_, _, t, _, _, _⟩ => t
abbrev KE.n : KE → Int | ⟨_, _, _, n, _, _⟩ => n
abbrev KE.v : KE → Int | ⟨_, _, _, _, v, _⟩ => v
abbrev KE.l : KE → List KE | ⟨_, _, _, _, _, l⟩ => l

def i32 (n : Int) : Prop := -2147483648 ≤ n ∧ n ≤ 2147483647
def i64 (n : Int) : Prop := -9223372036854775808 ≤ n ∧ n ≤ 9223372036854775807
def u8 (n : Int) : Prop := 0 ≤ n ∧ n ≤ 255

mutual
/-- the six cells of an expression -/
def RK (h : GH) : KE → List Value → Prop
  | ⟨k, o, t, n, v, l⟩, cs => (u8 k ∧ u8 o ∧ u8 t ∧ i32 n ∧ i64 v) ∧ ∃ a cap, cs = [.int .u8 k, .int .u8 o, .int .u8 t, .int .i32 n, .int .i64 v, .slice a l.length cap] ∧
      l.length ≤ cap ∧ (l ≠ [] → ∃ b o, a = some ⟨b, o, none⟩ ∧ RKl h l b o)
/-- a row of expressions from a place on -/
def RKl (h : GH) : List KE → Nat → Nat → Prop
  | [], _, _ => True
  | e :: r, b, o => (∃ cs, atH h b o cs ∧ RK h e cs) ∧ RKl h r b (o + 6)
end

theorem RK.len {h : GH} {e : KE} {cs : List Value} (r : RK h e cs) : cs.length = 6 := by
  obtain ⟨k, o, t, n, v, l⟩ := e
  simp only [RK] at r
  obtain ⟨_, a, cap, rfl, _⟩ := r
  rfl

theorem RKl.at {h : GH} : ∀ {l : List KE} {b o : Nat}, RKl h l b o → ∀ (i : Nat) (hi : i < l.length), ∃ cs, atH h b (o + i * 6) cs ∧ RK h l[i] cs
  | [], _, _, _, i, hi => by simp at hi
  | e :: r, b, o, hr, i, hi => by
    simp only [RKl] at hr
    cases i with
    | zero => simpa using hr.1
    | succ i =>
      have := RKl.at hr.2 i (by simpa using hi)
      rw [show o + 6 + i * 6 = o + (i + 1) * 6 by omega] at this
      simpa using this

mutual
theorem RK.mono {h h' : GH} (hl : h.le h') : ∀ {e : KE} {cs : List Value}, RK h e cs → RK h' e cs
  | ⟨k, o, t, n, v, l⟩, cs, r => by
    simp only [RK] at r ⊢
    obtain ⟨r1, a, cap, r2, r3, r4⟩ := r
    exact ⟨r1, a, cap, r2, r3, fun hn => let ⟨b, o, x, y⟩ := r4 hn; ⟨b, o, x, RKl.mono hl y⟩⟩
theorem RKl.mono {h h' : GH} (hl : h.le h') : ∀ {l : List KE} {b o : Nat}, RKl h l b o → RKl h' l b o
  | [], _, _, _ => trivial
  | e :: r, b, o, x => by
    simp only [RKl] at x ⊢
    obtain ⟨⟨cs, x1, x2⟩, x3⟩ := x
    exact ⟨⟨cs, x1.mono hl, RK.mono hl x2⟩, RKl.mono hl x3⟩
end

/-! ### small things -/
theorem wr64 (n : Int) (h : -9223372036854775808 ≤ n ∧ n ≤ 9223372036854775807) : IntKind.i64.wrap n = n := by
  unfold IntKind.wrap
  simp only [IntKind.bits, IntKind.signed, Bool.true_and, ge_iff_le, decide_eq_true_eq]
  have e1 : (2 ^ 64 : Int) = 18446744073709551616 := by decide
  have e2 : (2 ^ (64 - 1) : Int) = 9223372036854775808 := by decide
  rw [e1, e2]
  split <;> omega
theorem wr32 (n : Int) (h : -2147483648 ≤ n ∧ n ≤ 2147483647) : IntKind.i32.wrap n = n := by
  unfold IntKind.wrap
  simp only [IntKind.bits, IntKind.signed, Bool.true_and, ge_iff_le, decide_eq_true_eq]
  have e1 : (2 ^ 32 : Int) = 4294967296 := by decide
  have e2 : (2 ^ (32 - 1) : Int) = 2147483648 := by decide
  rw [e1, e2]
  split <;> omega
theorem int64_eq {n m : Int} (h : n = m) : Value.int .i64 n = .int .i64 m := by rw [h]
theorem bool_eq {a b : Bool} (h : a = true ↔ b = true) : Value.bool a = Value.bool b := by rw [Bool.eq_iff_iff.2 h]
/-- a slot's value, said otherwise -/
theorem V.val {C : Cfg} {k : List It} {e : Env} {h : GH} {L : List Ent} (t : Nat) {v v' : Value} (hl : look e.us t = some v) (hv : v = v') (next : V C k ⟨(t, v') :: e.us, e.cs⟩ h L) : V C k e h L := by
  subst hv
  intro ho a w b cs ag s h1 h2
  refine next ho a w b cs ⟨ag.size, ag.defers, fun u v hu => ?_, ag.cs⟩ s h1 h2
  simp only [look] at hu
  split at hu
  · rename_i hk; have hk := Nat.eq_of_beq_eq_true hk; subst hk; injection hu with hu; subst hu; exact ag.us _ _ hl
  · exact ag.us _ _ hu
theorem WE.val {G : Rg} {π : List Nat} {e : Env} {h : GH} {E : Slots} (t : Nat) {v v' : Value} (hl : look e.us t = some v) (hv : v = v') (next : WE G π ⟨(t, v') :: e.us, e.cs⟩ h E) : WE G π e h E := by
  subst hv
  intro a ag
  refine next a ⟨ag.size, ag.defers, fun u v hu => ?_, ag.cs⟩
  simp only [look] at hu
  split at hu
  · rename_i hk; have hk := Nat.eq_of_beq_eq_true hk; subst hk; injection hu with hu; subst hu; exact ag.us _ _ hl
  · exact ag.us _ _ hu
/-- what is known of the head of the entries -/
theorem V.swap2 {C : Cfg} {k : List It} {e : Env} {h : GH} {L : List Ent} {x y : Ent} (next : V C k e h (y :: x :: L)) : V C k e h (x :: y :: L) := V.perm (List.Perm.swap y x L) next
/-- a loop, round by round -/
theorem V.loop1 {C : Cfg} {k : List It} {e : Env} {h : GH} {L : List Ent} {c : Code} (hv : V C (.code c :: .inLoop c :: k) e h L) : V C (.code (.loop c) :: k) e h L :=
  hv.of_step (fun ho => itsOk_code (itsOk_loop (itsOk_tail ho))) fun _ _ _ _ _ => .one step_loop
theorem V.again {C : Cfg} {k : List It} {e : Env} {h : GH} {L : List Ent} {c : Code} (hv : V C (.code c :: .inLoop c :: k) e h L) : V C (.inLoop c :: k) e h L :=
  hv.of_step (fun ho => itsOk_code ho) fun _ _ _ _ _ => .one step_inLoop
/-- a choice whose side is known -/
theorem V.pickT {C : Cfg} {k : List It} {e : Env} {h : GH} {L : List Ent} {all : Array Oper} {o : Oper} {l : List Oper} {m : Option (Nat × Bool)} {ks : List (Nat × Bool)} {c x y : Operand} {v : Value} {e' : Env}
    (hg : gmode e all o.guard = some (m, ks)) (ho : o.op = .pick c x y) (hc : e.ev ks c = some (.bool true)) (hx : e.ev ks x = some v) (hput : e.put C.n m o.dst v = some e') (next : V C (.ops all l :: k) e' h L) : V C (.ops all (o :: l) :: k) e h L :=
  V.value hg (fun a w g s hk => by
    unfold execOp
    rw [ho]
    simp only [g.ev hk hc, asBool]
    simp [g.ev hk hx]) hput next
theorem V.pickF {C : Cfg} {k : List It} {e : Env} {h : GH} {L : List Ent} {all : Array Oper} {o : Oper} {l : List Oper} {m : Option (Nat × Bool)} {ks : List (Nat × Bool)} {c x y : Operand} {v : Value} {e' : Env}
    (hg : gmode e all o.guard = some (m, ks)) (ho : o.op = .pick c x y) (hc : e.ev ks c = some (.bool false)) (hy : e.ev ks y = some v) (hput : e.put C.n m o.dst v = some e') (next : V C (.ops all l :: k) e' h L) : V C (.ops all (o :: l) :: k) e h L :=
  V.value hg (fun a w g s hk => by
    unfold execOp
    rw [ho]
    simp only [g.ev hk hc, asBool]
    simp [g.ev hk hy]) hput next
theorem WE.pickT {G : Rg} {π : List Nat} {e : Env} {h : GH} {E : Slots} {i : Nat} {o : Oper} {m : Option (Nat × Bool)} {ks : List (Nat × Bool)} {c x y : Operand} {v : Value} {e' : Env}
    (hi : nthL G.all.toList i = some o) (hg : gmode e G.all o.guard = some (m, ks)) (ho : o.op = .pick c x y) (hc : e.ev ks c = some (.bool true)) (hx : e.ev ks x = some v) (hput : e.put G.C.n m o.dst v = some e') (next : WE G π e' h E) : WE G (i :: π) e h E :=
  WE.value hi (by unfold kd; rw [ho]) hg (fun a w E g s hk => by
    unfold execOp
    rw [ho]
    simp only [g.ev hk hc, asBool]
    simp [g.ev hk hx]) hput next
theorem WE.pickF {G : Rg} {π : List Nat} {e : Env} {h : GH} {E : Slots} {i : Nat} {o : Oper} {m : Option (Nat × Bool)} {ks : List (Nat × Bool)} {c x y : Operand} {v : Value} {e' : Env}
    (hi : nthL G.all.toList i = some o) (hg : gmode e G.all o.guard = some (m, ks)) (ho : o.op = .pick c x y) (hc : e.ev ks c = some (.bool false)) (hy : e.ev ks y = some v) (hput : e.put G.C.n m o.dst v = some e') (next : WE G π e' h E) : WE G (i :: π) e h E :=
  WE.value hi (by unfold kd; rw [ho]) hg (fun a w E g s hk => by
    unfold execOp
    rw [ho]
    simp only [g.ev hk hc, asBool]
    simp [g.ev hk hy]) hput next

/-! ### under a guard that is known -/
section known
variable {C : Cfg} {k : List It} {e : Env} {h : GH} {L : List Ent}
theorem V.valueY {all : Array Oper} {o : Oper} {l : List Oper} {ks : List (Nat × Bool)} {v : Value} {e' : Env} (hg : gyes e all o.guard = some ks)
    (hr : ∀ a w, Ag C.n e a → St C.w0 h L w → keysOk a ks → (execOp a.eval o).run C.P w = .ok (.value v) w) (hp : e.put C.n none o.dst v = some e') (hv : V C (.ops all l :: k) e' h L) :
    V C (.ops all (o :: l) :: k) e h L :=
  V.sure hg fun a w g s hk => by
    unfold Oper.wp
    rw [hr a w g s hk]
    exact ⟨_, h, L, g.put hp, s, hv⟩
def ystep (S : TT) (n : Nat) (k : List It) (e : Env) : Option (List It × Env) :=
  match k with
  | .ops all [] :: k => some (k, ⟨e.us, []⟩)
  | .ops all (o :: l) :: k => match gyes e all o.guard with
    | some ks => match pve S e ks o.op with
      | some v => match e.put n none o.dst v with
        | some e' => some (.ops all l :: k, e')
        | none => none
      | none => none
    | none => none
  | k => match cstep k with
    | some k' => some (k', e)
    | none => none
theorem V.stepY {k' : List It} {e' : Env} (hs : ystep C.S C.n k e = some (k', e')) (hv : V C k' e' h L) : V C k e h L := by
  unfold ystep at hs
  split at hs
  · injection hs with hs; injection hs with h1 h2; subst h1; subst h2
    exact V.opsNil hv
  · split at hs
    · rename_i ks hg
      split at hs
      · rename_i v hpv
        split at hs
        · rename_i e'' hput
          injection hs with hs; injection hs with h1 h2; subst h1; subst h2
          exact V.valueY hg (fun a w g s hk => run_pve C.ok g hk hpv) hput hv
        · cases hs
      · cases hs
    · cases hs
  · split at hs
    · rename_i k'' hc
      injection hs with hs; injection hs with h1 h2; subst h1; subst h2
      exact hv.cstep hc
    · cases hs
theorem V.skipU {all : Array Oper} {o : Oper} {l : List Oper} {t : Nat} {b : Bool} {ks : List (Nat × Bool)} {e' : Env} (hg : gmode e all o.guard = some (some (t, b), ks)) (hl : look e.us t = some undef) (hp : e.put C.n none o.dst undef = some e') (hv : V C (.ops all l :: k) e' h L) :
    V C (.ops all (o :: l) :: k) e h L :=
  V.op fun a w g s => ⟨fun hon => by
    rcases gmode_spec g hg with ⟨h1, _⟩ | ⟨t', b', h1, hiff, _⟩
    · cases h1
    · injection h1 with h1; injection h1 with h1 h2; subst h1; subst h2
      have := hiff.1 hon
      rw [g.us _ _ hl] at this
      injection this with this
      exact absurd this.symm (bool_ne_undef _), fun _ => ⟨e', h, L, g.put hp, s, hv⟩⟩
theorem V.loadY {all : Array Oper} {o : Oper} {l : List Oper} {ks : List (Nat × Bool)} {t : TypeId} {p : Operand} {b off : Nat} {ti : TI} {x : Ent} {v : Value} {e' : Env}
    (hg : gyes e all o.guard = some ks) (ho : o.op = .load t p) (hp : e.ev ks p = some (.pointer (some ⟨b, off, none⟩))) (ht : C.S.get t = some ti) [i : EntAt L b x]
    (hv : ldV ti x off = some v) (hput : e.put C.n none o.dst v = some e') (next : V C (.ops all l :: k) e' h L) : V C (.ops all (o :: l) :: k) e h L :=
  V.valueY hg (fun a w g s hk => by
    have := run_ldV (TT.Ok.get C.ok ht) (s.own x i.mem) i.blk hv
    unfold execOp
    rw [ho]
    simp only [g.ev hk hp, Sem.run_bind, this, Result.andThen_ok, Sem.run_pure]) hput next
theorem V.loadHY {all : Array Oper} {o : Oper} {l : List Oper} {ks : List (Nat × Bool)} {t : TypeId} {p : Operand} {b off : Nat} {ti : TI} {v : Value} {e' : Env}
    (hg : gyes e all o.guard = some ks) (ho : o.op = .load t p) (hp : e.ev ks p = some (.pointer (some ⟨b, off, none⟩))) (ht : C.S.get t = some ti) (ha : ti.agg = false)
    (hv : h b off = some v) (hput : e.put C.n none o.dst v = some e') (next : V C (.ops all l :: k) e' h L) : V C (.ops all (o :: l) :: k) e h L :=
  V.valueY hg (fun a w g s hk => by
    have := run_loadAt_one (P := C.P) (TT.Ok.get C.ok ht) ha (s.imm _ _ _ hv)
    unfold execOp
    rw [ho]
    simp only [g.ev hk hp, Sem.run_bind, this, Result.andThen_ok, Sem.run_pure]) hput next
theorem V.loadHAY {all : Array Oper} {o : Oper} {l : List Oper} {ks : List (Nat × Bool)} {t : TypeId} {p : Operand} {b off : Nat} {ti : TI} {vs : List Value} {e' : Env}
    (hg : gyes e all o.guard = some ks) (ho : o.op = .load t p) (hp : e.ev ks p = some (.pointer (some ⟨b, off, none⟩))) (ht : C.S.get t = some ti) (ha : ti.agg = true)
    (hv : atH h b off vs) (hl : vs.length = ti.size) (hput : e.put C.n none o.dst (.agg ⟨vs⟩) = some e') (next : V C (.ops all l :: k) e' h L) : V C (.ops all (o :: l) :: k) e h L :=
  V.valueY hg (fun a w g s hk => by
    have := run_loadAt_agg (P := C.P) (TT.Ok.get C.ok ht) ha (fun i u hu => s.imm _ _ _ (hv i u hu)) hl
    unfold execOp
    rw [ho]
    simp only [g.ev hk hp, Sem.run_bind, this, Result.andThen_ok, Sem.run_pure]) hput next
theorem V.indexY {all : Array Oper} {o : Oper} {l : List Oper} {ks : List (Nat × Bool)} {t : TypeId} {x ix : Operand} {xv v : Value} {kk : IntKind} {i : Int} {n : Nat} {e' : Env}
    (hg : gyes e all o.guard = some ks) (ho : o.op = .indexAddr t x ix) (hx : e.ev ks x = some xv) (hi : e.ev ks ix = some (.int kk i)) (hv : idxv C.S t xv i = some (v, n))
    (hput : e.put C.n none o.dst v = some e') (h0 : 0 ≤ i) (h1 : i < n) (next : V C (.ops all l :: k) e' h L) : V C (.ops all (o :: l) :: k) e h L :=
  V.valueY hg (fun a w g s hk => by
    have := run_idxv (w := w) (kk := kk) C.ok hv h0 h1
    unfold execOp
    rw [ho]
    simp only [g.ev hk hx, g.ev hk hi, Sem.run_bind, this, Result.andThen_ok, Sem.run_pure]) hput next
end known
theorem WE.nilC {C : Cfg} {all : Array Oper} {L0 : List Ent} {pubs : Nat → List Nat} {Y : Nat → List Value → Value → GH → Prop} {m : Nat} {k : List It} {e : Env} {h : GH} {E : Slots} (l L' : List Ent)
    (hl : listU E 0 all.size = some l) (hL : appL l L0 = L') (hv : V C (.ops all (all.toList.drop m) :: k) e h L') : WE (drawRg C all L0 pubs Y m k) [] e h E :=
  WE.nil hl (by rw [← appL_eq, hL]; exact hv)
/-- append, when the length is known -/
theorem V.appendN {C : Cfg} {k : List It} {e : Env} {h : GH} {L : List Ent} {all : Array Oper} {o : Oper} {l : List Oper} {ks : List (Nat × Bool)} {y1 y2 : Operand} {t el : TypeId} {ti ei : TI} {v1 v2 : Value} {x : Ent} {c1 c2 : List Value} {d : Nat} (n : Nat)
    (hg : gyes e all o.guard = some ks) (ho : o.op = .call ⟨.builtin .append, #[y1, y2], #[t, t]⟩) (h1 : e.ev ks y1 = some v1) (h2 : e.ev ks y2 = some v2)
    (ht : C.S.get t = some ti) (hd : ti.d = .slice el) (he : C.S.get el = some ei) (hsz : Nat.blt 0 ei.size = true) (hz1 : allOne ei.zero = true) (hby : Nat.ble ei.bytes 4096 = true)
    (hdst : o.dst = some d) (hc : okPut C.n e d = true)
    (a1 : Sl h ei.size v1 c1) (tl : Tl ei.size v1 x) (a2 : Sl h ei.size v2 c2) (hb : c1.length + c2.length ≤ 1073741824) (hn : c1.length + c2.length = n * ei.size) (hn0 : 0 < n)
    (next : ∀ b o c h' x', h.le h' → n ≤ c → atH h' b o (c1 ++ c2) → Tl ei.size (.slice (some ⟨b, o, none⟩) n c) x' → V C (.ops all l :: k) ⟨(d, .slice (some ⟨b, o, none⟩) n c) :: e.us, e.cs⟩ h' (x' :: L)) : V C (.ops all (o :: l) :: k) e h (x :: L) :=
  V.append hg ho h1 h2 ht hd he hsz hz1 hby hdst hc a1 tl a2 hb fun v' h' x' q1 q2 q3 => by
    obtain ⟨a, m, c, e1, e2, e3, e4⟩ := q2
    have hsz' : 0 < ei.size := by simpa [Nat.blt_eq] using hsz
    have hm : m = n := by
      rw [List.length_append, hn] at e3
      exact (Nat.eq_of_mul_eq_mul_right hsz' e3).symm
    subst hm
    obtain ⟨b, o, e5, e6⟩ := e4 hn0
    subst e5; subst e1
    exact next b o c h' x' q1 e2 e6 q3
theorem Sl.of {h : GH} {sz n c b o : Nat} {cs : List Value} (hc : n ≤ c) (hn : cs.length = n * sz) (ha : atH h b o cs) : Sl h sz (.slice (some ⟨b, o, none⟩) n c) cs := ⟨_, _, _, rfl, hc, hn, fun _ => ⟨_, _, rfl, ha⟩⟩
end Go.Tp
