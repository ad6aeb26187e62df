/-
  NARROWER THAN 'FOR EVERY INPUT', by the rows' own cells (each row's printed sentence says how): StepStart: loops · StepSame: loops · StepReaches: loops · StepSequence: loops · StepHost: loops · StepTurned: loops.
  DERIVED. THE GIVEN ROWS OF THIS SEAT. 6 by the template 'for every input the law returns true; each argument reads behind the call as it read before'; 0 by the template 'total and deterministic' (their statements: YthdgpbgjmbkleaaGreatTotals.lean).
  GIVEN WITH THE SEED: the statements are not yours to turn. If you find one false, say at which input.
  Laid BY PROGRAM, IN A SANDBOX (cutbox-rows.mjs): the forced cells as the released guide's own fill.sh prints them over the translation c5b299f12a9c04b3… (all of the seat's roots in one cut). By AI agents, Wed Nov 11 2026. No macro, syntax, notation, axiom, sorry.
-/
import Derived.Test.YthdgpbgjmbkleaaGreatChecked
import GoSem.Claim
import GoSem.ClaimJoined
import GoSem.ClaimMapViews
import Derived.JoinedTies
import Derived.KernelRfl
namespace Go.Proofs.YthdgpbgjmbkleaaGreat
/- THE CELL 'sum', in the pinned program and in every row, IS THE sha256 OF THE DUMP (.gsa) THAT YthdgpbgjmbkleaaGreatProg.lean LOADS. Nothing in Lean hashes anything: it is a label: what it is worth is what the hold of that sum in a sandbox is worth. -/
noncomputable def Tryz.pinned : Pinned := { name := "ythdgpbgjmbkleaagreat", sum := "c5b299f12a9c04b325416803643dc095fb5848c7bba4d1096fd3252baf1ca725", checked := Tryz.checked }
namespace Rows
def none {H : Type} : Left H := { results := [], args := [] }

/-- 'transputerlaw18.StepStart': WHATEVER THE INPUT: true; the input reads as it did. -/
def stepStartSpec : ChangeSpec := { name := "stepStart", fn := fun _ => fun
  | [d1, d2] => { results := [.lit (.bool true)], args := [d1, d2] }
  | _ => none }
def stepStartRow : OpenClaim := { program := "ythdgpbgjmbkleaagreat", sum := "c5b299f12a9c04b325416803643dc095fb5848c7bba4d1096fd3252baf1ca725", func := "transputer/transputerlaw18.StepStart", spec := "stepStart", unfollowed := true, recurses := true, loops := true, apart := false }
def StepStartSaid : Prop := stepStartRow.holds Tryz.pinned (OpenSpec.ofChange stepStartSpec)

/-- ITS FALSE NEIGHBOUR: 'it returns false'. Refute it at one input. -/
def stepStartWrong : ChangeSpec := { name := "stepStart", fn := fun _ => fun
  | [d1, d2] => { results := [.lit (.bool false)], args := [d1, d2] }
  | _ => none }
def StepStartWrongFalsely : Prop := stepStartRow.holds Tryz.pinned (OpenSpec.ofChange stepStartWrong)

/-- 'transputerlaw18.StepSame': WHATEVER THE INPUT: true; the input reads as it did. -/
def stepSameSpec : ChangeSpec := { name := "stepSame", fn := fun _ => fun
  | [d1, d2] => { results := [.lit (.bool true)], args := [d1, d2] }
  | _ => none }
def stepSameRow : OpenClaim := { program := "ythdgpbgjmbkleaagreat", sum := "c5b299f12a9c04b325416803643dc095fb5848c7bba4d1096fd3252baf1ca725", func := "transputer/transputerlaw18.StepSame", spec := "stepSame", unfollowed := true, recurses := true, loops := true, apart := false }
def StepSameSaid : Prop := stepSameRow.holds Tryz.pinned (OpenSpec.ofChange stepSameSpec)

/-- ITS FALSE NEIGHBOUR: 'it returns false'. Refute it at one input. -/
def stepSameWrong : ChangeSpec := { name := "stepSame", fn := fun _ => fun
  | [d1, d2] => { results := [.lit (.bool false)], args := [d1, d2] }
  | _ => none }
def StepSameWrongFalsely : Prop := stepSameRow.holds Tryz.pinned (OpenSpec.ofChange stepSameWrong)

/-- 'transputerlaw18.StepReaches': WHATEVER THE INPUT: true; the input reads as it did. -/
def stepReachesSpec : ChangeSpec := { name := "stepReaches", fn := fun _ => fun
  | [d1, d2, d3] => { results := [.lit (.bool true)], args := [d1, d2, d3] }
  | _ => none }
def stepReachesRow : OpenClaim := { program := "ythdgpbgjmbkleaagreat", sum := "c5b299f12a9c04b325416803643dc095fb5848c7bba4d1096fd3252baf1ca725", func := "transputer/transputerlaw18.StepReaches", spec := "stepReaches", unfollowed := true, recurses := true, loops := true, apart := false }
def StepReachesSaid : Prop := stepReachesRow.holds Tryz.pinned (OpenSpec.ofChange stepReachesSpec)

/-- ITS FALSE NEIGHBOUR: 'it returns false'. Refute it at one input. -/
def stepReachesWrong : ChangeSpec := { name := "stepReaches", fn := fun _ => fun
  | [d1, d2, d3] => { results := [.lit (.bool false)], args := [d1, d2, d3] }
  | _ => none }
def StepReachesWrongFalsely : Prop := stepReachesRow.holds Tryz.pinned (OpenSpec.ofChange stepReachesWrong)

/-- 'transputerlaw18.StepSequence': WHATEVER THE INPUT: true; the input reads as it did. -/
def stepSequenceSpec : ChangeSpec := { name := "stepSequence", fn := fun _ => fun
  | [d1, d2] => { results := [.lit (.bool true)], args := [d1, d2] }
  | _ => none }
def stepSequenceRow : OpenClaim := { program := "ythdgpbgjmbkleaagreat", sum := "c5b299f12a9c04b325416803643dc095fb5848c7bba4d1096fd3252baf1ca725", func := "transputer/transputerlaw18.StepSequence", spec := "stepSequence", unfollowed := true, recurses := true, loops := true, apart := false }
def StepSequenceSaid : Prop := stepSequenceRow.holds Tryz.pinned (OpenSpec.ofChange stepSequenceSpec)

/-- ITS FALSE NEIGHBOUR: 'it returns false'. Refute it at one input. -/
def stepSequenceWrong : ChangeSpec := { name := "stepSequence", fn := fun _ => fun
  | [d1, d2] => { results := [.lit (.bool false)], args := [d1, d2] }
  | _ => none }
def StepSequenceWrongFalsely : Prop := stepSequenceRow.holds Tryz.pinned (OpenSpec.ofChange stepSequenceWrong)

/-- 'transputerlaw18.StepHost': WHATEVER THE INPUT: true; the input reads as it did. -/
def stepHostSpec : ChangeSpec := { name := "stepHost", fn := fun _ => fun
  | [d1, d2, d3] => { results := [.lit (.bool true)], args := [d1, d2, d3] }
  | _ => none }
def stepHostRow : OpenClaim := { program := "ythdgpbgjmbkleaagreat", sum := "c5b299f12a9c04b325416803643dc095fb5848c7bba4d1096fd3252baf1ca725", func := "transputer/transputerlaw18.StepHost", spec := "stepHost", unfollowed := true, recurses := true, loops := true, apart := false }
def StepHostSaid : Prop := stepHostRow.holds Tryz.pinned (OpenSpec.ofChange stepHostSpec)

/-- ITS FALSE NEIGHBOUR: 'it returns false'. Refute it at one input. -/
def stepHostWrong : ChangeSpec := { name := "stepHost", fn := fun _ => fun
  | [d1, d2, d3] => { results := [.lit (.bool false)], args := [d1, d2, d3] }
  | _ => none }
def StepHostWrongFalsely : Prop := stepHostRow.holds Tryz.pinned (OpenSpec.ofChange stepHostWrong)

/-- 'transputerlaw18.StepTurned': WHATEVER THE INPUT: true; the input reads as it did. -/
def stepTurnedSpec : ChangeSpec := { name := "stepTurned", fn := fun _ => fun
  | [d1, d2, d3] => { results := [.lit (.bool true)], args := [d1, d2, d3] }
  | _ => none }
def stepTurnedRow : OpenClaim := { program := "ythdgpbgjmbkleaagreat", sum := "c5b299f12a9c04b325416803643dc095fb5848c7bba4d1096fd3252baf1ca725", func := "transputer/transputerlaw18.StepTurned", spec := "stepTurned", unfollowed := true, recurses := true, loops := true, apart := false }
def StepTurnedSaid : Prop := stepTurnedRow.holds Tryz.pinned (OpenSpec.ofChange stepTurnedSpec)

/-- ITS FALSE NEIGHBOUR: 'it returns false'. Refute it at one input. -/
def stepTurnedWrong : ChangeSpec := { name := "stepTurned", fn := fun _ => fun
  | [d1, d2, d3] => { results := [.lit (.bool false)], args := [d1, d2, d3] }
  | _ => none }
def StepTurnedWrongFalsely : Prop := stepTurnedRow.holds Tryz.pinned (OpenSpec.ofChange stepTurnedWrong)

/- THE SECOND FORM. 'bulk': how many values and letters a reading holds, each counted each time it is reached (what is shared counts as often as it is met; a slice's spare places count too). A statement '..UptoSaid' is the law's where the arguments, and the package variables that the reading takes, are together of bulk at most 1048576: NARROWER than '..Said'. Prove '..Said' where nothing that the law and all that it calls make is longer than what came in: it says more and counts as full. Else prove '..UptoSaid'. A law counts once. -/
mutual
def uptoBulk {H : Type} : DataW H → Nat
  | .lit (.string bytes) => bytes.length + 1
  | .lit _ => 1
  | .nil => 1
  | .ptr d => uptoBulk d + 1
  | .slice elems spare => uptoBulkAll elems + uptoBulkAll spare + 1
  | .agg parts => uptoBulkAll parts + 1
  | .iface _ d => uptoBulk d + 1
  | .map entries => uptoBulkEntries entries + 1
  | .held _ => 1
def uptoBulkAll {H : Type} : List (DataW H) → Nat
  | [] => 0
  | d :: r => uptoBulk d + uptoBulkAll r
def uptoBulkEntries {H : Type} : List (Lit × DataW H) → Nat
  | [] => 0
  | x :: r => uptoBulkEntry x + uptoBulkEntries r
def uptoBulkEntry {H : Type} : Lit × DataW H → Nat
  | (.string bytes, d) => bytes.length + uptoBulk d + 1
  | (_, d) => uptoBulk d + 1
 end
def uptoSmall : (H : Type) → List (DataW H) → Bool := fun _ ds => decide (uptoBulkAll ds ≤ 1048576)
def OpenSpec.upto (s : _root_.Go.ChangeSpec) : _root_.Go.OpenSpec := { _root_.Go.OpenSpec.ofChange s with cond := some uptoSmall }

/-- 'transputerlaw18.StepStart', WHERE WHAT IT READS IS OF BULK AT MOST 1048576: true; the input reads as it did. -/
def stepStartUptoRow : OpenClaim := { program := "ythdgpbgjmbkleaagreat", sum := "c5b299f12a9c04b325416803643dc095fb5848c7bba4d1096fd3252baf1ca725", func := "transputer/transputerlaw18.StepStart", spec := "stepStart", unfollowed := true, recurses := true, loops := true, apart := false, narrowed := true }
def StepStartUptoSaid : Prop := stepStartUptoRow.holds Tryz.pinned (OpenSpec.upto stepStartSpec)

/-- 'transputerlaw18.StepSame', WHERE WHAT IT READS IS OF BULK AT MOST 1048576: true; the input reads as it did. -/
def stepSameUptoRow : OpenClaim := { program := "ythdgpbgjmbkleaagreat", sum := "c5b299f12a9c04b325416803643dc095fb5848c7bba4d1096fd3252baf1ca725", func := "transputer/transputerlaw18.StepSame", spec := "stepSame", unfollowed := true, recurses := true, loops := true, apart := false, narrowed := true }
def StepSameUptoSaid : Prop := stepSameUptoRow.holds Tryz.pinned (OpenSpec.upto stepSameSpec)

/-- 'transputerlaw18.StepReaches', WHERE WHAT IT READS IS OF BULK AT MOST 1048576: true; the input reads as it did. -/
def stepReachesUptoRow : OpenClaim := { program := "ythdgpbgjmbkleaagreat", sum := "c5b299f12a9c04b325416803643dc095fb5848c7bba4d1096fd3252baf1ca725", func := "transputer/transputerlaw18.StepReaches", spec := "stepReaches", unfollowed := true, recurses := true, loops := true, apart := false, narrowed := true }
def StepReachesUptoSaid : Prop := stepReachesUptoRow.holds Tryz.pinned (OpenSpec.upto stepReachesSpec)

/-- 'transputerlaw18.StepSequence', WHERE WHAT IT READS IS OF BULK AT MOST 1048576: true; the input reads as it did. -/
def stepSequenceUptoRow : OpenClaim := { program := "ythdgpbgjmbkleaagreat", sum := "c5b299f12a9c04b325416803643dc095fb5848c7bba4d1096fd3252baf1ca725", func := "transputer/transputerlaw18.StepSequence", spec := "stepSequence", unfollowed := true, recurses := true, loops := true, apart := false, narrowed := true }
def StepSequenceUptoSaid : Prop := stepSequenceUptoRow.holds Tryz.pinned (OpenSpec.upto stepSequenceSpec)

/-- 'transputerlaw18.StepHost', WHERE WHAT IT READS IS OF BULK AT MOST 1048576: true; the input reads as it did. -/
def stepHostUptoRow : OpenClaim := { program := "ythdgpbgjmbkleaagreat", sum := "c5b299f12a9c04b325416803643dc095fb5848c7bba4d1096fd3252baf1ca725", func := "transputer/transputerlaw18.StepHost", spec := "stepHost", unfollowed := true, recurses := true, loops := true, apart := false, narrowed := true }
def StepHostUptoSaid : Prop := stepHostUptoRow.holds Tryz.pinned (OpenSpec.upto stepHostSpec)

/-- 'transputerlaw18.StepTurned', WHERE WHAT IT READS IS OF BULK AT MOST 1048576: true; the input reads as it did. -/
def stepTurnedUptoRow : OpenClaim := { program := "ythdgpbgjmbkleaagreat", sum := "c5b299f12a9c04b325416803643dc095fb5848c7bba4d1096fd3252baf1ca725", func := "transputer/transputerlaw18.StepTurned", spec := "stepTurned", unfollowed := true, recurses := true, loops := true, apart := false, narrowed := true }
def StepTurnedUptoSaid : Prop := stepTurnedUptoRow.holds Tryz.pinned (OpenSpec.upto stepTurnedSpec)

end Rows
end Go.Proofs.YthdgpbgjmbkleaaGreat
