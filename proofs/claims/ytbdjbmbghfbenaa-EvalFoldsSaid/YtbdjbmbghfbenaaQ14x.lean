/-
  Chapter 14: what the arguments read as.
-/
import Derived.Test.YtbdjbmbghfbenaaQ14g
import Derived.Test.YtbdjbmbghfbenaaLd

namespace Go.Proofs.Ytbdjbmbghfbenaa
open Go Go.Tp Go.ChangeShapes Go.WideShapes Go.ChangeAt Go.RowKit
set_option linter.unusedVariables false
set_option linter.unusedSimpArgs false
set_option maxRecDepth 100000

theorem own : ownKnob Try.prog.godebug = none := by kernel_rfl
theorem laidOut : laidOutB Try.prog = true := by kernel_rfl
section
variable {H : Type} {enc : TypeId × Value → H} {W : World} {base : Nat} {sp : Nat → Bool} {hd : Bool}
abbrev cellsXl (e : XE) : List AV := [AU8 e.kind, AU8 e.oper, AU8 e.to, AI32 e.n, AS e.s, .sl 6 (encXl e.l) none]
theorem wfXl_of : ∀ {l : List XE}, (∀ a, a ∈ l → wfX a) → wfXl l
  | [], _ => by rw [wfXl]; trivial
  | x :: r, h => by rw [wfXl]; exact ⟨h x (List.mem_cons_self ..), wfXl_of fun a ha => h a (List.mem_cons_of_mem _ ha)⟩
theorem encXl_ag (l : List XE) : encXl l = l.map fun e => .ag (cellsXl e) := by
  rw [encXl_map]; congr 1; funext e; exact encX_eq e
theorem op_x : ∀ n, Opn enc Try.prog W base sp hd n 28 cellsXl wfX
  | 0 => Opn.zero
  | n + 1 => by
    have ih := op_x n
    have hl := (Opn.sliceA (t := 26) (sz := 6) (bt := 48) (by kernel_rfl) (by kernel_rfl) (by kernel_rfl) (by decide) ih).mono (Nat.le_succ n)
    have hf := OpnF.cons (f := ⟨"Kind", 23, 0, false, "", "", 0⟩) (Opn.u8 (by kernel_rfl) n) rfl 1 (by kernel_rfl) (OpnF.cons (f := ⟨"Oper", 24, 1, false, "", "", 1⟩) (Opn.u8 (by kernel_rfl) n) rfl 1 (by kernel_rfl)
      (OpnF.cons (f := ⟨"To", 25, 2, false, "", "", 2⟩) (Opn.u8 (by kernel_rfl) n) rfl 1 (by kernel_rfl) (OpnF.cons (f := ⟨"N", 21, 3, false, "", "", 4⟩) (Opn.i32 (by kernel_rfl) n) rfl 1 (by kernel_rfl)
      (OpnF.cons (f := ⟨"S", 9, 4, false, "", "", 8⟩) (Opn.str (by kernel_rfl) n) rfl 1 (by kernel_rfl) (OpnF.cons (f := ⟨"L", 26, 5, false, "", "", 24⟩) hl rfl 1 (by kernel_rfl) OpnF.nil)))))
    refine (Opn.struct (t := 28) (sz := 6) (fs := #[⟨"Kind", 23, 0, false, "", "", 0⟩, ⟨"Oper", 24, 1, false, "", "", 1⟩, ⟨"To", 25, 2, false, "", "", 2⟩, ⟨"N", 21, 3, false, "", "", 4⟩, ⟨"S", 9, 4, false, "", "", 8⟩, ⟨"L", 26, 5, false, "", "", 24⟩]) (by kernel_rfl) (by kernel_rfl) hf (by kernel_rfl)).map (fun p => ⟨p.1, p.2.1, p.2.2.1, p.2.2.2.1, p.2.2.2.2.1, p.2.2.2.2.2.1⟩) (fun p => ?_) (fun p hp => ?_)
    · show cellsXl _ = [_] ++ ([_] ++ ([_] ++ ([_] ++ ([_] ++ ([AV.sl 6 _ none] ++ [])))))
      rw [← encXl_ag]; rfl
    · obtain ⟨k, o, t, n, s, l, u⟩ := p
      obtain ⟨h1, h2, h3, h4, h5, ⟨h6, h7⟩, _⟩ := hp
      rw [wfX]
      unfold reachBytes at h7
      exact ⟨⟨h1, h2, h3, h4, h5, by simp only at h7 ⊢; omega⟩, wfXl_of h6⟩
/-- what is asked of a specification that was read -/
def wfSP (x : SP) : Prop := i64 x.dim ∧ x.names.length ≤ 281474976710656 ∧ wfX x.e
abbrev cellsS (x : SP) : List AV := [AU8 x.kind, AU8 x.tk, AI x.dim, AU8 x.item, AS x.tp, namesA x.names, AU8 x.e.kind, AU8 x.e.oper, AU8 x.e.to, AI32 x.e.n, AS x.e.s, .sl 6 (encXl x.e.l) none, .v x.r1, .v x.r2, .v x.r3, .v x.r4]
theorem op_s (n : Nat) : Opn enc Try.prog W base sp hd n 103 cellsS wfSP := by
  have hty := Opn.struct (n := n) (t := 95) (sz := 4) (fs := #[⟨"Kind", 25, 0, false, "", "", 0⟩, ⟨"Dim", 3, 1, false, "", "", 8⟩, ⟨"Item", 25, 2, false, "", "", 16⟩, ⟨"Proto", 9, 3, false, "", "", 24⟩]) (W := W) (base := base) (sp := sp) (hd := hd) (enc := enc) (P := Try.prog) (by kernel_rfl) (by kernel_rfl)
    (OpnF.cons (f := ⟨"Kind", 25, 0, false, "", "", 0⟩) (Opn.u8 (by kernel_rfl) n) rfl 1 (by kernel_rfl) (OpnF.cons (f := ⟨"Dim", 3, 1, false, "", "", 8⟩) (Opn.i64 (by kernel_rfl) n) rfl 1 (by kernel_rfl)
      (OpnF.cons (f := ⟨"Item", 25, 2, false, "", "", 16⟩) (Opn.u8 (by kernel_rfl) n) rfl 1 (by kernel_rfl) (OpnF.cons (f := ⟨"Proto", 9, 3, false, "", "", 24⟩) (Opn.str (by kernel_rfl) n) rfl 1 (by kernel_rfl) OpnF.nil)))) (by kernel_rfl)
  have hpr := Opn.struct (n := n) (t := 99) (sz := 2) (fs := #[⟨"Cases", 4, 0, false, "", "", 0⟩, ⟨"L", 97, 1, false, "", "", 8⟩]) (W := W) (base := base) (sp := sp) (hd := hd) (enc := enc) (P := Try.prog) (by kernel_rfl) (by kernel_rfl)
    (OpnF.cons (f := ⟨"Cases", 4, 0, false, "", "", 0⟩) (Opn.bool (by kernel_rfl) n) rfl 1 (by kernel_rfl) (OpnF.cons (f := ⟨"L", 97, 1, false, "", "", 8⟩) (Opn.raw (e := 163) (by kernel_rfl) n) rfl 1 (by kernel_rfl) OpnF.nil)) (by kernel_rfl)
  have hnm := Opn.slice1 (n := n) (t := 96) (bt := 16) (W := W) (base := base) (sp := sp) (hd := hd) (enc := enc) (P := Try.prog) (by kernel_rfl) (by kernel_rfl) (by kernel_rfl) (Opn.str (t := 9) (by kernel_rfl) n)
  have hf := OpnF.cons (f := ⟨"Kind", 93, 0, false, "", "", 0⟩) (Opn.u8 (by kernel_rfl) n) rfl 1 (by kernel_rfl) (OpnF.cons (f := ⟨"Type", 95, 1, false, "", "", 8⟩) (hty.mono (Nat.le_succ n)) rfl 4 (by kernel_rfl)
    (OpnF.cons (f := ⟨"Names", 96, 5, false, "", "", 48⟩) (hnm.mono (Nat.le_succ n)) rfl 1 (by kernel_rfl) (OpnF.cons (f := ⟨"E", 28, 6, false, "", "", 72⟩) (op_x n) rfl 6 (by kernel_rfl)
    (OpnF.cons (f := ⟨"Proto", 99, 12, false, "", "", 120⟩) (hpr.mono (Nat.le_succ n)) rfl 2 (by kernel_rfl) (OpnF.cons (f := ⟨"Formals", 100, 14, false, "", "", 152⟩) (Opn.raw (e := 165) (by kernel_rfl) n) rfl 1 (by kernel_rfl)
    (OpnF.cons (f := ⟨"Body", 101, 15, false, "", "", 176⟩) (Opn.raw (e := 171) (by kernel_rfl) n) rfl 1 (by kernel_rfl) OpnF.nil))))))
  refine ((Opn.struct (t := 103) (sz := 16) (fs := #[⟨"Kind", 93, 0, false, "", "", 0⟩, ⟨"Type", 95, 1, false, "", "", 8⟩, ⟨"Names", 96, 5, false, "", "", 48⟩, ⟨"E", 28, 6, false, "", "", 72⟩, ⟨"Proto", 99, 12, false, "", "", 120⟩, ⟨"Formals", 100, 14, false, "", "", 152⟩, ⟨"Body", 101, 15, false, "", "", 176⟩]) (by kernel_rfl) (by kernel_rfl) hf (by kernel_rfl)).mono (Nat.le_succ n)).map
    (fun p => ⟨p.1, p.2.1.1, p.2.1.2.1, p.2.1.2.2.1, p.2.1.2.2.2.1, p.2.2.1, p.2.2.2.1, .bool p.2.2.2.2.1.1, p.2.2.2.2.1.2.1, p.2.2.2.2.2.1, p.2.2.2.2.2.2.1⟩) (fun p => rfl) (fun p hp => ?_)
  obtain ⟨h1, ⟨h2, h3, h4, h5, _⟩, ⟨h6, h7⟩, h8, _⟩ := hp
  unfold reachBytes at h7
  exact ⟨h3, by show p.2.2.1.length ≤ _; omega, h8⟩
theorem argX {v : Value} {d : DataW H} {p : List MemPlace} (hval : Value.okWide Try.prog W .any base 28 v) (h : DataW.Trod enc Try.prog W 0 (fun _ => true) true 28 v d p) (hw : Wt Try.prog 28 d) :
    ∃ e, wfX e ∧ Rp (hOf W) (encX e) v := by
  obtain ⟨e, h1, h2⟩ := arg_struct (fs := #[⟨"Kind", 23, 0, false, "", "", 0⟩, ⟨"Oper", 24, 1, false, "", "", 1⟩, ⟨"To", 25, 2, false, "", "", 2⟩, ⟨"N", 21, 3, false, "", "", 4⟩, ⟨"S", 9, 4, false, "", "", 8⟩, ⟨"L", 26, 5, false, "", "", 24⟩]) (by kernel_rfl) op_x hval h hw
  exact ⟨e, h1, by rw [encX_eq]; exact h2⟩
theorem argSs {v : Value} {d : DataW H} {p : List MemPlace} (hval : Value.okWide Try.prog W .any base 69 v) (h : DataW.Trod enc Try.prog W 0 (fun _ => true) true 69 v d p) (hw : Wt Try.prog 69 d) :
    ∃ l : List SP, ((∀ x, x ∈ l → wfSP x) ∧ l.length ≤ 281474976710656) ∧ Rp (hOf W) (specsA l) v := by
  obtain ⟨l, ⟨h1, h2⟩, h3⟩ := arg_slice (e := 103) (t := 69) (en := fun l : List SP => specsA l) (by kernel_rfl) (fun n => (Opn.sliceA (sz := 16) (bt := 200) (by kernel_rfl) (by kernel_rfl) (by kernel_rfl) (by decide) (op_s n)).mono (Nat.le_succ n)) hval h hw
  unfold reachBytes at h2
  exact ⟨l, ⟨h1, by omega⟩, h3⟩
theorem argU8 {v : Value} {d : DataW H} {p : List MemPlace} (hval : Value.okWide Try.prog W .any base 5 v) (h : DataW.Trod enc Try.prog W 0 (fun _ => true) true 5 v d p) (hw : Wt Try.prog 5 d) : ∃ n, u8 n ∧ Rp (hOf W) (AU8 n) v :=
  arg_int (by kernel_rfl) (Opn.u8 (by kernel_rfl)) hval h hw
theorem argI32 {v : Value} {d : DataW H} {p : List MemPlace} (hval : Value.okWide Try.prog W .any base 21 v) (h : DataW.Trod enc Try.prog W 0 (fun _ => true) true 21 v d p) (hw : Wt Try.prog 21 d) : ∃ n, i32 n ∧ Rp (hOf W) (AI32 n) v :=
  arg_int (by kernel_rfl) (Opn.i32 (by kernel_rfl)) hval h hw
theorem argI64 {v : Value} {d : DataW H} {p : List MemPlace} (hval : Value.okWide Try.prog W .any base 3 v) (h : DataW.Trod enc Try.prog W 0 (fun _ => true) true 3 v d p) (hw : Wt Try.prog 3 d) : ∃ n, i64 n ∧ Rp (hOf W) (AI n) v :=
  arg_int (by kernel_rfl) (Opn.i64 (by kernel_rfl)) hval h hw
theorem argI32s {v : Value} {d : DataW H} {p : List MemPlace} (hval : Value.okWide Try.prog W .any base 42 v) (h : DataW.Trod enc Try.prog W 0 (fun _ => true) true 42 v d p) (hw : Wt Try.prog 42 d) :
    ∃ l : List Int, ((∀ x, x ∈ l → i32 x) ∧ l.length ≤ 281474976710656) ∧ Rp (hOf W) (.sl 1 (l.map AI32) none) v := by
  obtain ⟨l, ⟨h1, h2⟩, h3⟩ := arg_slice (e := 21) (t := 42) (en := fun l : List Int => .sl 1 (l.map AI32) none) (by kernel_rfl) (fun n => (Opn.slice1 (bt := 4) (by kernel_rfl) (by kernel_rfl) (by kernel_rfl) (Opn.i32 (t := 21) (by kernel_rfl) n)).mono (Nat.le_succ n)) hval h hw
  unfold reachBytes at h2
  exact ⟨l, ⟨h1, by omega⟩, h3⟩
end
end Go.Proofs.Ytbdjbmbghfbenaa
