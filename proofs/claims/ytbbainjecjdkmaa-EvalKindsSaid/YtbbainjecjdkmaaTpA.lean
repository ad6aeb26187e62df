/-
  A small logic over the walk's machine, of this project's own: a ghost heap of cells that never change, a list of owned runs of cells, symbolic slots. (TpA: worlds.)
-/
import Derived.WalkKit
namespace Go.Tp
open Go Go.RowKit

/-- cells that never change, by block and offset -/
abbrev GH := Nat → Nat → Option Value
def GH.le (h h' : GH) : Prop := ∀ b o v, h b o = some v → h' b o = some v
theorem GH.le_refl (h : GH) : h.le h := fun _ _ _ x => x
theorem GH.le_trans {a b c : GH} (x : a.le b) (y : b.le c) : a.le c := fun i o v z => y i o v (x i o v z)

/-- an owned run of cells; or an owned object that is no row of cells -/
structure Ent where
  b : Nat
  lo : Nat
  cs : List Value
  obj : Option Obj := none

def Ent.apart (p q : Ent) : Prop :=
  (∀ i j, i < p.cs.length → j < q.cs.length → p.b = q.b → p.lo + i = q.lo + j → False) ∧
  (p.obj.isSome → q.obj.isSome → p.b = q.b → False)
theorem Ent.apart_symm {p q : Ent} (h : p.apart q) : q.apart p :=
  ⟨fun i j hi hj hb ho => h.1 j i hj hi hb.symm ho.symm, fun a b c => h.2 b a c.symm⟩

/-- whether a value is one cell's -/
def oneC : Value → Bool
  | .agg _ => false
  | .tuple _ => false
  | _ => true
theorem oneC_eq (v : Value) : oneC v = v.oneCell' := by cases v <;> rfl
def allOne : List Value → Bool
  | [] => true
  | v :: r => match oneC v with
    | true => allOne r
    | false => false
theorem allOne_mem : ∀ {l : List Value}, allOne l = true → ∀ v, v ∈ l → oneC v = true
  | [], _, _, hm => by cases hm
  | x :: r, h, v, hm => by
    simp only [allOne] at h
    split at h
    · rename_i hx
      rcases List.mem_cons.1 hm with rfl | hm
      · exact hx
      · exact allOne_mem h v hm
    · cases h
theorem allOne_of : ∀ {l : List Value}, (∀ v, v ∈ l → oneC v = true) → allOne l = true
  | [], _ => rfl
  | x :: r, h => by simp only [allOne, h x (List.mem_cons_self ..)]; exact allOne_of fun v hv => h v (List.mem_cons_of_mem _ hv)

structure Ent.held (w0 : World) (h : GH) (w : World) (p : Ent) : Prop where
  one : ∀ v, v ∈ p.cs → oneC v = true
  cell : ∀ i v, p.cs[i]? = some v → w.cell? ⟨p.b, p.lo + i, none⟩ = some v
  new : ∀ i, i < p.cs.length → w0.heap.size ≤ p.b
  warm : ∀ i, i < p.cs.length → w.frozen? ⟨p.b, p.lo + i, none⟩ = false
  fresh : ∀ i, i < p.cs.length → h p.b (p.lo + i) = none
  obj : ∀ o, p.obj = some o → w0.heap.size ≤ p.b ∧ w.heap[p.b]? = some o ∧ ∀ c t f, o ≠ .cells c t f

/-- what is known of a world -/
structure St (w0 : World) (h : GH) (L : List Ent) (w : World) : Prop where
  below : Below w0.heap.size w0 w
  imm : ∀ b o v, h b o = some v → w.cell? ⟨b, o, none⟩ = some v
  imm1 : ∀ b o v, h b o = some v → oneC v = true
  own : ∀ p, p ∈ L → p.held w0 h w
  dis : L.Pairwise Ent.apart
  frz : ∀ a, w.frozen? a = w0.frozen? a

variable {w0 w : World} {h h' : GH} {L L' : List Ent}

theorem below_drew (hb : Below w0.heap.size w0 w) : Below w0.heap.size w0 { w with drawn := w.drawn + 1 } := ⟨hb.os, hb.tape, hb.output, hb.size, hb.block⟩

theorem St.drew (s : St w0 h L w) : St w0 h L { w with drawn := w.drawn + 1 } :=
  ⟨below_drew s.below, s.imm, s.imm1, fun p hp => let k := s.own p hp; ⟨k.one, k.cell, k.new, k.warm, k.fresh, k.obj⟩, s.dis, s.frz⟩

theorem St.perm (s : St w0 h L w) (hp : L.Perm L') : St w0 h L' w :=
  ⟨s.below, s.imm, s.imm1, fun p hq => s.own p (hp.mem_iff.2 hq), (hp.pairwise_iff (R := Ent.apart) (fun hx => Ent.apart_symm hx)).1 s.dis, s.frz⟩

theorem St.tail {p : Ent} (s : St w0 h (p :: L) w) : St w0 h L w :=
  ⟨s.below, s.imm, s.imm1, fun q hq => s.own q (List.mem_cons_of_mem _ hq), (List.pairwise_cons.1 s.dis).2, s.frz⟩

theorem lt_of_cell {a : Addr} {v : Value} (hc : w.cell? a = some v) : a.block < w.heap.size := block_lt_of_cell hc

theorem St.fresh_h (s : St w0 h L w) (o : Nat) : h w.heap.size o = none := by
  cases hh : h w.heap.size o with
  | none => rfl
  | some v => exact absurd (lt_of_cell (s.imm _ _ _ hh)) (Nat.lt_irrefl _)

theorem getElem?_some_of_lt {α : Type} {l : List α} {i : Nat} (hi : i < l.length) : ∃ v, l[i]? = some v := ⟨l[i], by simp [hi]⟩

theorem frozen_alloc (w : World) (o : Obj) (ho : (∃ c t, o = .cells c t) ∨ ∀ c t f, o ≠ .cells c t f) (a : Addr) : (w.alloc o).frozen? a = w.frozen? a := by
  rcases Nat.lt_or_ge a.block w.heap.size with h | h
  · exact World.frozen?_of_block (Below.heap_alloc w _ _ h)
  · have e1 : w.frozen? a = false := by unfold World.frozen?; rw [Array.getElem?_eq_none h]
    rw [e1]
    rcases Nat.lt_or_ge w.heap.size a.block with h' | h'
    · have : (w.alloc o).heap[a.block]? = none := Array.getElem?_eq_none (by rw [show (w.alloc o).heap.size = w.heap.size + 1 by simp]; omega)
      unfold World.frozen?; rw [this]
    · have e2 : a.block = w.heap.size := by omega
      unfold World.frozen?
      rw [e2, heap_alloc_new w o]
      rcases ho with ⟨c, t, rfl⟩ | ho
      · simp
      · cases o <;> simp
        exact (ho _ _ _ rfl).elim

/-- a new row of cells -/
theorem St.alloc (s : St w0 h L w) (cs : Array Value) (t : TypeId) (h1 : allOne cs.toList = true) : St w0 h (⟨w.heap.size, 0, cs.toList, none⟩ :: L) (w.alloc (.cells cs t)) := by
  have hle := s.below.size
  refine ⟨s.below.alloc hle _, fun b o v hh => ?_, s.imm1, fun p hp => ?_, ?_, fun a => (frozen_alloc w _ (.inl ⟨cs, t, rfl⟩) a).trans (s.frz a)⟩
  · have hc := s.imm b o v hh
    rw [World.cell?_alloc_lt (h := lt_of_cell hc)]; exact hc
  · rcases List.mem_cons.1 hp with rfl | hp
    · refine ⟨allOne_mem h1, fun i v hv => ?_, fun _ _ => hle, fun i hi => ?_, fun i _ => s.fresh_h _, fun o ho => by cases ho⟩
      · simp only [Nat.zero_add]
        have := World.cell?_alloc_new (w := w) cs t i
        rw [this]; simpa using hv
      · simp
    · have k := s.own p hp
      refine ⟨k.one, fun i v hv => ?_, k.new, fun i hi => ?_, k.fresh, fun o ho => ?_⟩
      · have hc := k.cell i v hv
        rw [World.cell?_alloc_lt (h := lt_of_cell hc)]; exact hc
      · obtain ⟨v, hv⟩ := getElem?_some_of_lt hi
        have hl := lt_of_cell (k.cell i v hv)
        have h1 := k.warm i hi
        rw [← h1]
        exact World.frozen?_of_block (Below.heap_alloc w _ _ hl)
      · obtain ⟨h1, h2, h3⟩ := k.obj o ho
        refine ⟨h1, ?_, h3⟩
        have hlt : p.b < w.heap.size := by
          rcases Nat.lt_or_ge p.b w.heap.size with h | h
          · exact h
          · rw [Array.getElem?_eq_none h] at h2; cases h2
        rw [Below.heap_alloc w _ _ hlt]; exact h2
  · refine List.pairwise_cons.2 ⟨fun q hq => ⟨fun i j hi hj hb _ => ?_, fun x => by cases x⟩, s.dis⟩
    obtain ⟨v, hv⟩ := getElem?_some_of_lt hj
    have := lt_of_cell ((s.own q hq).cell j v hv)
    simp only at hb this
    omega

/-- an owned run of cells becomes a part of the ghost heap -/
def GH.add (h : GH) (b lo : Nat) (cs : List Value) : GH := fun b' o => if b' = b ∧ lo ≤ o ∧ o < lo + cs.length then cs[o - lo]? else h b' o

theorem GH.add_at (h : GH) (b lo : Nat) (cs : List Value) {i : Nat} {v : Value} (hv : cs[i]? = some v) : h.add b lo cs b (lo + i) = some v := by
  have hi : i < cs.length := by
    rcases Nat.lt_or_ge i cs.length with h | h
    · exact h
    · rw [List.getElem?_eq_none h] at hv; cases hv
  unfold GH.add
  rw [if_pos ⟨rfl, by omega, by omega⟩]
  simpa using hv

theorem St.le_add {b lo : Nat} {cs : List Value} {ob : Option Obj} (s : St w0 h (⟨b, lo, cs, ob⟩ :: L) w) : h.le (h.add b lo cs) := by
  intro b' o v hv
  unfold GH.add
  split
  · rename_i hc
    obtain ⟨rfl, h1, h2⟩ := hc
    have := (s.own _ (List.mem_cons_self ..)).fresh (o - lo) (by simp only; omega)
    simp only at this
    rw [show lo + (o - lo) = o by omega, hv] at this
    cases this
  · exact hv

theorem St.publish {b lo : Nat} {cs : List Value} {ob : Option Obj} (s : St w0 h (⟨b, lo, cs, ob⟩ :: L) w) : St w0 (h.add b lo cs) L w := by
  have k := s.own _ (List.mem_cons_self ..)
  have hd := List.pairwise_cons.1 s.dis
  refine ⟨s.below, fun b' o v hv => ?_, fun b' o v hv => ?_, fun p hp => ?_, hd.2, s.frz⟩
  rotate_left
  · unfold GH.add at hv
    split at hv
    · exact k.one v (List.mem_of_getElem? hv)
    · exact s.imm1 _ _ _ hv
  rotate_left
  · unfold GH.add at hv
    split at hv
    · rename_i hc
      obtain ⟨rfl, h1, h2⟩ := hc
      have := k.cell _ _ hv
      simp only at this
      rwa [show lo + (o - lo) = o by omega] at this
    · exact s.imm _ _ _ hv
  · have q := s.own p (List.mem_cons_of_mem _ hp)
    refine ⟨q.one, q.cell, q.new, q.warm, fun i hi => ?_, q.obj⟩
    unfold GH.add
    split
    · rename_i hc
      obtain ⟨e, h1, h2⟩ := hc
      exact ((hd.1 p hp).1 (p.lo + i - lo) i (by simp only; omega) hi e.symm (by simp only; omega)).elim
    · exact q.fresh i hi

theorem oneCell_of {v : Value} (h1 : ∀ c, v ≠ .agg c) (h2 : ∀ c, v ≠ .tuple c) : v.oneCell' = true := by
  cases v <;> first | rfl | exact (h1 _ rfl).elim | exact (h2 _ rfl).elim

/-- a store into an owned run -/
theorem St.setCell {L1 : List Ent} {b lo : Nat} {cs : List Value} {ob : Option Obj} (s : St w0 h (L1 ++ ⟨b, lo, cs, ob⟩ :: L) w) {i : Nat} (hi : i < cs.length) (v : Value) (hv1 : oneC v = true) :
    St w0 h (L1 ++ ⟨b, lo, cs.set i v, ob⟩ :: L) (w.setCell ⟨b, lo + i, none⟩ v) := by
  have s' : St w0 h (⟨b, lo, cs, ob⟩ :: (L1 ++ L)) w := s.perm List.perm_middle
  refine St.perm (L := ⟨b, lo, cs.set i v, ob⟩ :: (L1 ++ L)) ?_ List.perm_middle.symm
  clear s
  generalize L1 ++ L = M at s'
  have k := s'.own _ (List.mem_cons_self ..)
  have hd := List.pairwise_cons.1 s'.dis
  obtain ⟨u, hu⟩ := getElem?_some_of_lt hi
  have hcu := k.cell i u hu
  refine ⟨s'.below.setCell (k.new i hi) v, fun b' o x hx => ?_, s'.imm1, fun p hp => ?_, ?_, fun a => (World.frozen?_setCell ..).trans (s'.frz a)⟩
  · rw [World.cell?_setCell_other]
    · exact s'.imm _ _ _ hx
    · intro e
      have hf := k.fresh i hi
      injection e with e1 e2 _
      simp only at hf
      rw [e1, e2, hx] at hf; cases hf
  · rcases List.mem_cons.1 hp with rfl | hp
    · refine ⟨fun x hx => (List.mem_or_eq_of_mem_set hx).elim (fun hm => k.one x hm) (fun he => he ▸ hv1), fun j x hx => ?_, fun j hj => k.new i hi, fun j hj => ?_, fun j hj => k.fresh j (by simpa using hj), fun o ho => ?_⟩
      · simp only at hx ⊢
        by_cases hij : j = i
        · subst hij
          rw [List.getElem?_set_self hi] at hx
          injection hx with hx; subst hx
          exact World.cell?_setCell_same _ _ _ hcu
        · rw [List.getElem?_set_ne (Ne.symm hij)] at hx
          rw [World.cell?_setCell_other]
          · exact k.cell j x hx
          · intro e; injection e with _ e2 _; omega
      · rw [World.frozen?_setCell]; exact k.warm j (by simpa using hj)
      · obtain ⟨h1, h2, h3⟩ := k.obj o ho
        refine ⟨h1, ?_, h3⟩
        have hb := hcu
        simp only [World.cell?] at hb
        rw [show (⟨b, lo, cs, ob⟩ : Ent).b = b from rfl] at h2
        rw [h2] at hb
        cases o <;> simp at hb
        exact (h3 _ _ _ rfl).elim
    · have q := s'.own p (List.mem_cons_of_mem _ hp)
      have ha := hd.1 p hp
      refine ⟨q.one, fun j x hx => ?_, q.new, fun j hj => ?_, q.fresh, fun o ho => ?_⟩
      · rw [World.cell?_setCell_other]
        · exact q.cell j x hx
        · intro e
          injection e with e1 e2 _
          have hj : j < p.cs.length := by
            rcases Nat.lt_or_ge j p.cs.length with h | h
            · exact h
            · rw [List.getElem?_eq_none h] at hx; cases hx
          exact ha.1 i j hi hj e1 e2
      · rw [World.frozen?_setCell]; exact q.warm j hj
      · obtain ⟨h1, h2, h3⟩ := q.obj o ho
        refine ⟨h1, ?_, h3⟩
        by_cases e : p.b = b
        · simp only [World.cell?] at hcu
          rw [← e, h2] at hcu
          cases o <;> simp at hcu
          exact (h3 _ _ _ rfl).elim
        · rw [Below.heap_setCell _ _ _ _ (by simpa using e)]; exact h2
  · refine List.pairwise_cons.2 ⟨fun q hq => ⟨fun a c hi hj => (hd.1 q hq).1 a c (by simpa using hi) hj, (hd.1 q hq).2⟩, hd.2⟩

/-- an owned object of another kind -/
theorem St.allocObj (s : St w0 h L w) (o : Obj) (ho : ∀ c t f, o ≠ .cells c t f) : St w0 h (⟨w.heap.size, 0, [], some o⟩ :: L) (w.alloc o) := by
  have hle := s.below.size
  refine ⟨s.below.alloc hle _, fun b o v hh => ?_, s.imm1, fun p hp => ?_, ?_, fun a => (frozen_alloc w _ (.inr ho) a).trans (s.frz a)⟩
  · have hc := s.imm b o v hh
    rw [World.cell?_alloc_lt (h := lt_of_cell hc)]; exact hc
  · rcases List.mem_cons.1 hp with rfl | hp
    · refine ⟨fun v hv => by simp at hv, fun i v hv => by simp at hv, fun i hi => by simp at hi, fun i hi => by simp at hi, fun i hi => by simp at hi, fun o' ho' => ?_⟩
      simp only [Option.some.injEq] at ho'; subst ho'
      exact ⟨hle, heap_alloc_new w _, ho⟩
    · have k := s.own p hp
      refine ⟨k.one, fun i v hv => ?_, k.new, fun i hi => ?_, k.fresh, fun o ho => ?_⟩
      · have hc := k.cell i v hv
        rw [World.cell?_alloc_lt (h := lt_of_cell hc)]; exact hc
      · obtain ⟨v, hv⟩ := getElem?_some_of_lt hi
        have hl := lt_of_cell (k.cell i v hv)
        have h1 := k.warm i hi
        rw [← h1]
        exact World.frozen?_of_block (Below.heap_alloc w _ _ hl)
      · obtain ⟨h1, h2, h3⟩ := k.obj o ho
        refine ⟨h1, ?_, h3⟩
        have hlt : p.b < w.heap.size := by
          rcases Nat.lt_or_ge p.b w.heap.size with h | h
          · exact h
          · rw [Array.getElem?_eq_none h] at h2; cases h2
        rw [Below.heap_alloc w _ _ hlt]; exact h2
  · refine List.pairwise_cons.2 ⟨fun q hq => ⟨fun i j hi => by simp at hi, fun _ hq' hb => ?_⟩, s.dis⟩
    cases hob : q.obj with
    | none => simp [hob] at hq'
    | some oq =>
      obtain ⟨_, h2, _⟩ := (s.own q hq).obj oq hob
      simp only at hb
      rw [← hb, Array.getElem?_eq_none (Nat.le_refl _)] at h2
      cases h2

/-- an owned run falls into two -/
theorem St.part {b lo : Nat} {c1 c2 : List Value} (s : St w0 h (⟨b, lo, c1 ++ c2, none⟩ :: L) w) : St w0 h (⟨b, lo, c1, none⟩ :: ⟨b, lo + c1.length, c2, none⟩ :: L) w := by
  have k := s.own _ (List.mem_cons_self ..)
  have hd := List.pairwise_cons.1 s.dis
  have k1 : Ent.held w0 h w ⟨b, lo, c1, none⟩ := by
    refine ⟨fun v hv => k.one v (List.mem_append_left _ hv), fun i v hv => k.cell i v ?_, fun i hi => k.new i ?_, fun i hi => k.warm i ?_, fun i hi => k.fresh i ?_, fun o ho => by cases ho⟩
    · have hi : i < c1.length := by
        rcases Nat.lt_or_ge i c1.length with h | h
        · exact h
        · simp only at hv; rw [List.getElem?_eq_none h] at hv; cases hv
      simp only at hv ⊢
      rw [List.getElem?_append_left hi]; exact hv
    all_goals (simp only [List.length_append] at hi ⊢; omega)
  have k2 : Ent.held w0 h w ⟨b, lo + c1.length, c2, none⟩ := by
    have e : ∀ i, lo + c1.length + i = lo + (c1.length + i) := fun i => by omega
    refine ⟨fun v hv => k.one v (List.mem_append_right _ hv), fun i v hv => ?_, fun i hi => k.new (c1.length + i) ?_, fun i hi => ?_, fun i hi => ?_, fun o ho => by cases ho⟩
    · simp only; rw [e]; refine k.cell (c1.length + i) v ?_
      simp only at hv ⊢
      rw [List.getElem?_append_right (by omega), Nat.add_sub_cancel_left]; exact hv
    · simp only [List.length_append] at hi ⊢; omega
    · simp only; rw [e]; refine k.warm (c1.length + i) ?_; simp only [List.length_append] at hi ⊢; omega
    · simp only; rw [e]; refine k.fresh (c1.length + i) ?_; simp only [List.length_append] at hi ⊢; omega
  refine ⟨s.below, s.imm, s.imm1, fun p hp => ?_, ?_, s.frz⟩
  · rcases List.mem_cons.1 hp with rfl | hp
    · exact k1
    · rcases List.mem_cons.1 hp with rfl | hp
      · exact k2
      · exact s.own p (List.mem_cons_of_mem _ hp)
  · refine List.pairwise_cons.2 ⟨fun q hq => ?_, List.pairwise_cons.2 ⟨fun q hq => ?_, hd.2⟩⟩
    · rcases List.mem_cons.1 hq with rfl | hq
      · exact ⟨fun i j hi hj _ ho => by simp only at hi hj ho; omega, fun x => by cases x⟩
      · exact ⟨fun i j hi hj hb ho => (hd.1 q hq).1 i j (by simp only [List.length_append] at hi ⊢; omega) hj hb ho, fun x => by cases x⟩
    · exact ⟨fun i j hi hj hb ho => (hd.1 q hq).1 (c1.length + i) j (by simp only [List.length_append] at hi ⊢; omega) hj hb (by simp only at ho ⊢; omega), fun x => by cases x⟩

#print axioms St.part
#print axioms St.setCell
end Go.Tp
