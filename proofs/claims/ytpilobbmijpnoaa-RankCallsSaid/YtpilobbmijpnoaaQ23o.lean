/-
  Chapter 23: what the arguments read as.
-/
import Derived.Test.YtpilobbmijpnoaaQ23b
import Derived.Test.YtpilobbmijpnoaaLd

namespace Go.Proofs.Ytpilobbmijpnoaa
open Go Go.Tp Go.ChangeShapes Go.WideShapes Go.ChangeAt Go.RowKit
set_option linter.unusedVariables false
set_option linter.unusedSimpArgs false
set_option maxRecDepth 100000

theorem own : ownKnob Try.prog.godebug = none := by kernel_rfl
theorem laidOut : laidOutB Try.prog = true := by kernel_rfl
section
variable {H : Type} {enc : TypeId × Value → H} {W : World} {base : Nat} {sp : Nat → Bool} {hd : Bool}
abbrev QR (l : List Int) : Prop := (∀ x, x ∈ l → i64 x) ∧ l.length * 8 ≤ reachBytes
abbrev QP (p : List (List Int)) : Prop := (∀ l, l ∈ p → QR l) ∧ p.length * 24 ≤ reachBytes
abbrev QN (c : Procs) : Prop := (∀ p, p ∈ c → QP p) ∧ c.length * 24 ≤ reachBytes
theorem op_row (n : Nat) : Opn enc Try.prog W base sp hd (n + 1) 25 (fun l => [rowA l]) QR :=
  Opn.slice1 (bt := 8) (by kernel_rfl) (by kernel_rfl) (by kernel_rfl) (Opn.i64 (t := 3) (by kernel_rfl) n)
theorem op_proc (n : Nat) : Opn enc Try.prog W base sp hd (n + 2) 37 (fun p => [procA p]) QP :=
  Opn.slice1 (bt := 24) (by kernel_rfl) (by kernel_rfl) (by kernel_rfl) (op_row n)
theorem op_procs (n : Nat) : Opn enc Try.prog W base sp hd (n + 3) 22 (fun c => [procsA c]) QN :=
  Opn.slice1 (bt := 24) (by kernel_rfl) (by kernel_rfl) (by kernel_rfl) (op_proc n)
theorem op_net (n : Nat) : Opn enc Try.prog W base sp hd n 24 (fun p : Int × Procs => [AI p.1, procsA p.2]) (fun p => i64 p.1 ∧ QN p.2) := by
  have hf := OpnF.cons (f := ⟨"Chans", 3, 0, false, "", "", 0⟩) (Opn.i64 (enc := enc) (P := Try.prog) (W := W) (base := base) (sp := sp) (hd := hd) (by kernel_rfl) n) rfl 1 (by kernel_rfl) (OpnF.cons (f := ⟨"Procs", 22, 1, false, "", "", 8⟩) ((op_procs n).mono (by omega)) rfl 1 (by kernel_rfl) OpnF.nil)
  refine ((Opn.struct (t := 24) (sz := 2) (fs := #[⟨"Chans", 3, 0, false, "", "", 0⟩, ⟨"Procs", 22, 1, false, "", "", 8⟩]) (by kernel_rfl) (by kernel_rfl) hf (by kernel_rfl)).mono (Nat.le_succ n)).map (fun p => (p.1, p.2.1)) (fun p => rfl) (fun p hp => ⟨hp.1, hp.2.1⟩)
theorem argNet {v : Value} {d : DataW H} {p : List MemPlace} (hval : Value.okWide Try.prog W .any base 24 v) (h : DataW.Trod enc Try.prog W 0 (fun _ => true) true 24 v d p) (hw : Wt Try.prog 24 d) :
    ∃ (n : Int) (c : Procs), i64 n ∧ ShortN c ∧ Rp (hOf W) (netA n c) v := by
  obtain ⟨⟨n, c⟩, ⟨h1, h2, h3⟩, h4⟩ := arg_struct (fs := #[⟨"Chans", 3, 0, false, "", "", 0⟩, ⟨"Procs", 22, 1, false, "", "", 8⟩]) (by kernel_rfl) op_net hval h hw
  unfold reachBytes at *
  refine ⟨n, c, h1, ⟨by simp only at h3; omega, fun p hp => ?_, fun p hp s hs => ?_⟩, h4⟩
  · have := (h2 p hp).2; unfold reachBytes at this; omega
  · have := ((h2 p hp).1 s hs).2; unfold reachBytes at this; omega
theorem argRow {v : Value} {d : DataW H} {p : List MemPlace} (hval : Value.okWide Try.prog W .any base 25 v) (h : DataW.Trod enc Try.prog W 0 (fun _ => true) true 25 v d p) (hw : Wt Try.prog 25 d) :
    ∃ l : List Int, ((∀ x, x ∈ l → i64 x) ∧ l.length ≤ 281474976710656) ∧ Rp (hOf W) (rowA l) v := by
  obtain ⟨l, ⟨h1, h2⟩, h3⟩ := arg_slice (e := 3) (t := 25) (en := fun l : List Int => rowA l) (by kernel_rfl) (fun n => (op_row n).mono (Nat.le_succ n)) hval h hw
  unfold reachBytes at h2
  exact ⟨l, ⟨h1, by omega⟩, h3⟩
end
end Go.Proofs.Ytpilobbmijpnoaa
