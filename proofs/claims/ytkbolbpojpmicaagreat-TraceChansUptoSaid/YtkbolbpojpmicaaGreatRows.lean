/-
  NARROWER THAN 'FOR EVERY INPUT', by the rows' own cells (each row's printed sentence says how): TraceExact: loops · TraceChans: loops · TracePrefix: loops · TraceFuel: loops · TraceTurned: loops · TraceSkip: loops · TraceEnds: loops · TopMeaning: loops · TopWalk: loops · TopDetermined: loops.
  DERIVED. THE GIVEN ROWS OF THIS SEAT. 10 by the template 'for every input the law returns true; each argument reads behind the call as it read before'; 0 by the template 'total and deterministic' (their statements: YtkbolbpojpmicaaGreatTotals.lean).
  GIVEN WITH THE SEED: the statements are not yours to turn. If you find one false, say at which input.
  Laid BY PROGRAM, IN A SANDBOX (cutbox-rows.mjs): the forced cells as the released guide's own fill.sh prints them over the translation 0574660b0f39fe81… (all of the seat's roots in one cut). By AI agents, Wed Nov 11 2026. No macro, syntax, notation, axiom, sorry.
-/
import Derived.Test.YtkbolbpojpmicaaGreatChecked
import GoSem.Claim
import GoSem.ClaimJoined
import GoSem.ClaimMapViews
import Derived.JoinedTies
import Derived.KernelRfl
namespace Go.Proofs.YtkbolbpojpmicaaGreat
/- THE CELL 'sum', in the pinned program and in every row, IS THE sha256 OF THE DUMP (.gsa) THAT YtkbolbpojpmicaaGreatProg.lean LOADS. Nothing in Lean hashes anything: it is a label: what it is worth is what the hold of that sum in a sandbox is worth. -/
noncomputable def Tryz.pinned : Pinned := { name := "ytkbolbpojpmicaagreat", sum := "0574660b0f39fe819eb9ac15e9e1dd6359fc5786efaaaa56b6e2a358a75a016f", checked := Tryz.checked }
namespace Rows
def none {H : Type} : Left H := { results := [], args := [] }

/-- 'transputerlaw19.TraceExact': WHATEVER THE INPUT: true; the input reads as it did. -/
def traceExactSpec : ChangeSpec := { name := "traceExact", fn := fun _ => fun
  | [d1, d2, d3] => { results := [.lit (.bool true)], args := [d1, d2, d3] }
  | _ => none }
def traceExactRow : OpenClaim := { program := "ytkbolbpojpmicaagreat", sum := "0574660b0f39fe819eb9ac15e9e1dd6359fc5786efaaaa56b6e2a358a75a016f", func := "transputer/transputerlaw19.TraceExact", spec := "traceExact", unfollowed := true, recurses := true, loops := true, apart := false }
def TraceExactSaid : Prop := traceExactRow.holds Tryz.pinned (OpenSpec.ofChange traceExactSpec)

/-- ITS FALSE NEIGHBOUR: 'it returns false'. Refute it at one input. -/
def traceExactWrong : ChangeSpec := { name := "traceExact", fn := fun _ => fun
  | [d1, d2, d3] => { results := [.lit (.bool false)], args := [d1, d2, d3] }
  | _ => none }
def TraceExactWrongFalsely : Prop := traceExactRow.holds Tryz.pinned (OpenSpec.ofChange traceExactWrong)

/-- 'transputerlaw19.TraceChans': WHATEVER THE INPUT: true; the input reads as it did. -/
def traceChansSpec : ChangeSpec := { name := "traceChans", fn := fun _ => fun
  | [d1, d2] => { results := [.lit (.bool true)], args := [d1, d2] }
  | _ => none }
def traceChansRow : OpenClaim := { program := "ytkbolbpojpmicaagreat", sum := "0574660b0f39fe819eb9ac15e9e1dd6359fc5786efaaaa56b6e2a358a75a016f", func := "transputer/transputerlaw19.TraceChans", spec := "traceChans", unfollowed := true, recurses := true, loops := true, apart := false }
def TraceChansSaid : Prop := traceChansRow.holds Tryz.pinned (OpenSpec.ofChange traceChansSpec)

/-- ITS FALSE NEIGHBOUR: 'it returns false'. Refute it at one input. -/
def traceChansWrong : ChangeSpec := { name := "traceChans", fn := fun _ => fun
  | [d1, d2] => { results := [.lit (.bool false)], args := [d1, d2] }
  | _ => none }
def TraceChansWrongFalsely : Prop := traceChansRow.holds Tryz.pinned (OpenSpec.ofChange traceChansWrong)

/-- 'transputerlaw19.TracePrefix': WHATEVER THE INPUT: true; the input reads as it did. -/
def tracePrefixSpec : ChangeSpec := { name := "tracePrefix", fn := fun _ => fun
  | [d1, d2, d3] => { results := [.lit (.bool true)], args := [d1, d2, d3] }
  | _ => none }
def tracePrefixRow : OpenClaim := { program := "ytkbolbpojpmicaagreat", sum := "0574660b0f39fe819eb9ac15e9e1dd6359fc5786efaaaa56b6e2a358a75a016f", func := "transputer/transputerlaw19.TracePrefix", spec := "tracePrefix", unfollowed := true, recurses := true, loops := true, apart := false }
def TracePrefixSaid : Prop := tracePrefixRow.holds Tryz.pinned (OpenSpec.ofChange tracePrefixSpec)

/-- ITS FALSE NEIGHBOUR: 'it returns false'. Refute it at one input. -/
def tracePrefixWrong : ChangeSpec := { name := "tracePrefix", fn := fun _ => fun
  | [d1, d2, d3] => { results := [.lit (.bool false)], args := [d1, d2, d3] }
  | _ => none }
def TracePrefixWrongFalsely : Prop := tracePrefixRow.holds Tryz.pinned (OpenSpec.ofChange tracePrefixWrong)

/-- 'transputerlaw19.TraceFuel': WHATEVER THE INPUT: true; the input reads as it did. -/
def traceFuelSpec : ChangeSpec := { name := "traceFuel", fn := fun _ => fun
  | [d1, d2, d3] => { results := [.lit (.bool true)], args := [d1, d2, d3] }
  | _ => none }
def traceFuelRow : OpenClaim := { program := "ytkbolbpojpmicaagreat", sum := "0574660b0f39fe819eb9ac15e9e1dd6359fc5786efaaaa56b6e2a358a75a016f", func := "transputer/transputerlaw19.TraceFuel", spec := "traceFuel", unfollowed := true, recurses := true, loops := true, apart := false }
def TraceFuelSaid : Prop := traceFuelRow.holds Tryz.pinned (OpenSpec.ofChange traceFuelSpec)

/-- ITS FALSE NEIGHBOUR: 'it returns false'. Refute it at one input. -/
def traceFuelWrong : ChangeSpec := { name := "traceFuel", fn := fun _ => fun
  | [d1, d2, d3] => { results := [.lit (.bool false)], args := [d1, d2, d3] }
  | _ => none }
def TraceFuelWrongFalsely : Prop := traceFuelRow.holds Tryz.pinned (OpenSpec.ofChange traceFuelWrong)

/-- 'transputerlaw19.TraceTurned': WHATEVER THE INPUT: true; the input reads as it did. -/
def traceTurnedSpec : ChangeSpec := { name := "traceTurned", fn := fun _ => fun
  | [d1, d2, d3] => { results := [.lit (.bool true)], args := [d1, d2, d3] }
  | _ => none }
def traceTurnedRow : OpenClaim := { program := "ytkbolbpojpmicaagreat", sum := "0574660b0f39fe819eb9ac15e9e1dd6359fc5786efaaaa56b6e2a358a75a016f", func := "transputer/transputerlaw19.TraceTurned", spec := "traceTurned", unfollowed := true, recurses := true, loops := true, apart := false }
def TraceTurnedSaid : Prop := traceTurnedRow.holds Tryz.pinned (OpenSpec.ofChange traceTurnedSpec)

/-- ITS FALSE NEIGHBOUR: 'it returns false'. Refute it at one input. -/
def traceTurnedWrong : ChangeSpec := { name := "traceTurned", fn := fun _ => fun
  | [d1, d2, d3] => { results := [.lit (.bool false)], args := [d1, d2, d3] }
  | _ => none }
def TraceTurnedWrongFalsely : Prop := traceTurnedRow.holds Tryz.pinned (OpenSpec.ofChange traceTurnedWrong)

/-- 'transputerlaw19.TraceSkip': WHATEVER THE INPUT: true; the input reads as it did. -/
def traceSkipSpec : ChangeSpec := { name := "traceSkip", fn := fun _ => fun
  | [d1, d2, d3] => { results := [.lit (.bool true)], args := [d1, d2, d3] }
  | _ => none }
def traceSkipRow : OpenClaim := { program := "ytkbolbpojpmicaagreat", sum := "0574660b0f39fe819eb9ac15e9e1dd6359fc5786efaaaa56b6e2a358a75a016f", func := "transputer/transputerlaw19.TraceSkip", spec := "traceSkip", unfollowed := true, recurses := true, loops := true, apart := false }
def TraceSkipSaid : Prop := traceSkipRow.holds Tryz.pinned (OpenSpec.ofChange traceSkipSpec)

/-- ITS FALSE NEIGHBOUR: 'it returns false'. Refute it at one input. -/
def traceSkipWrong : ChangeSpec := { name := "traceSkip", fn := fun _ => fun
  | [d1, d2, d3] => { results := [.lit (.bool false)], args := [d1, d2, d3] }
  | _ => none }
def TraceSkipWrongFalsely : Prop := traceSkipRow.holds Tryz.pinned (OpenSpec.ofChange traceSkipWrong)

/-- 'transputerlaw19.TraceEnds': WHATEVER THE INPUT: true; the input reads as it did. -/
def traceEndsSpec : ChangeSpec := { name := "traceEnds", fn := fun _ => fun
  | [d1, d2, d3] => { results := [.lit (.bool true)], args := [d1, d2, d3] }
  | _ => none }
def traceEndsRow : OpenClaim := { program := "ytkbolbpojpmicaagreat", sum := "0574660b0f39fe819eb9ac15e9e1dd6359fc5786efaaaa56b6e2a358a75a016f", func := "transputer/transputerlaw19.TraceEnds", spec := "traceEnds", unfollowed := true, recurses := true, loops := true, apart := false }
def TraceEndsSaid : Prop := traceEndsRow.holds Tryz.pinned (OpenSpec.ofChange traceEndsSpec)

/-- ITS FALSE NEIGHBOUR: 'it returns false'. Refute it at one input. -/
def traceEndsWrong : ChangeSpec := { name := "traceEnds", fn := fun _ => fun
  | [d1, d2, d3] => { results := [.lit (.bool false)], args := [d1, d2, d3] }
  | _ => none }
def TraceEndsWrongFalsely : Prop := traceEndsRow.holds Tryz.pinned (OpenSpec.ofChange traceEndsWrong)

/-- 'transputertop.TopMeaning': WHATEVER THE INPUT: true; the input reads as it did. -/
def topMeaningSpec : ChangeSpec := { name := "topMeaning", fn := fun _ => fun
  | [d1, d2, d3] => { results := [.lit (.bool true)], args := [d1, d2, d3] }
  | _ => none }
def topMeaningRow : OpenClaim := { program := "ytkbolbpojpmicaagreat", sum := "0574660b0f39fe819eb9ac15e9e1dd6359fc5786efaaaa56b6e2a358a75a016f", func := "transputer/transputertop.TopMeaning", spec := "topMeaning", unfollowed := true, recurses := true, loops := true, apart := false }
def TopMeaningSaid : Prop := topMeaningRow.holds Tryz.pinned (OpenSpec.ofChange topMeaningSpec)

/-- ITS FALSE NEIGHBOUR: 'it returns false'. Refute it at one input. -/
def topMeaningWrong : ChangeSpec := { name := "topMeaning", fn := fun _ => fun
  | [d1, d2, d3] => { results := [.lit (.bool false)], args := [d1, d2, d3] }
  | _ => none }
def TopMeaningWrongFalsely : Prop := topMeaningRow.holds Tryz.pinned (OpenSpec.ofChange topMeaningWrong)

/-- 'transputertop.TopWalk': WHATEVER THE INPUT: true; the input reads as it did. -/
def topWalkSpec : ChangeSpec := { name := "topWalk", fn := fun _ => fun
  | [d1, d2, d3] => { results := [.lit (.bool true)], args := [d1, d2, d3] }
  | _ => none }
def topWalkRow : OpenClaim := { program := "ytkbolbpojpmicaagreat", sum := "0574660b0f39fe819eb9ac15e9e1dd6359fc5786efaaaa56b6e2a358a75a016f", func := "transputer/transputertop.TopWalk", spec := "topWalk", unfollowed := true, recurses := true, loops := true, apart := false }
def TopWalkSaid : Prop := topWalkRow.holds Tryz.pinned (OpenSpec.ofChange topWalkSpec)

/-- ITS FALSE NEIGHBOUR: 'it returns false'. Refute it at one input. -/
def topWalkWrong : ChangeSpec := { name := "topWalk", fn := fun _ => fun
  | [d1, d2, d3] => { results := [.lit (.bool false)], args := [d1, d2, d3] }
  | _ => none }
def TopWalkWrongFalsely : Prop := topWalkRow.holds Tryz.pinned (OpenSpec.ofChange topWalkWrong)

/-- 'transputertop.TopDetermined': WHATEVER THE INPUT: true; the input reads as it did. -/
def topDeterminedSpec : ChangeSpec := { name := "topDetermined", fn := fun _ => fun
  | [d1, d2] => { results := [.lit (.bool true)], args := [d1, d2] }
  | _ => none }
def topDeterminedRow : OpenClaim := { program := "ytkbolbpojpmicaagreat", sum := "0574660b0f39fe819eb9ac15e9e1dd6359fc5786efaaaa56b6e2a358a75a016f", func := "transputer/transputertop.TopDetermined", spec := "topDetermined", unfollowed := true, recurses := true, loops := true, apart := false }
def TopDeterminedSaid : Prop := topDeterminedRow.holds Tryz.pinned (OpenSpec.ofChange topDeterminedSpec)

/-- ITS FALSE NEIGHBOUR: 'it returns false'. Refute it at one input. -/
def topDeterminedWrong : ChangeSpec := { name := "topDetermined", fn := fun _ => fun
  | [d1, d2] => { results := [.lit (.bool false)], args := [d1, d2] }
  | _ => none }
def TopDeterminedWrongFalsely : Prop := topDeterminedRow.holds Tryz.pinned (OpenSpec.ofChange topDeterminedWrong)

/- THE SECOND FORM. 'bulk': how many values and letters a reading holds, each counted each time it is reached (what is shared counts as often as it is met; a slice's spare places count too). A statement '..UptoSaid' is the law's where the arguments, and the package variables that the reading takes, are together of bulk at most 1048576: NARROWER than '..Said'. Prove '..Said' where nothing that the law and all that it calls make is longer than what came in: it says more and counts as full. Else prove '..UptoSaid'. A law counts once. -/
mutual
def uptoBulk {H : Type} : DataW H → Nat
  | .lit (.string bytes) => bytes.length + 1
  | .lit _ => 1
  | .nil => 1
  | .ptr d => uptoBulk d + 1
  | .slice elems spare => uptoBulkAll elems + uptoBulkAll spare + 1
  | .agg parts => uptoBulkAll parts + 1
  | .iface _ d => uptoBulk d + 1
  | .map entries => uptoBulkEntries entries + 1
  | .held _ => 1
def uptoBulkAll {H : Type} : List (DataW H) → Nat
  | [] => 0
  | d :: r => uptoBulk d + uptoBulkAll r
def uptoBulkEntries {H : Type} : List (Lit × DataW H) → Nat
  | [] => 0
  | x :: r => uptoBulkEntry x + uptoBulkEntries r
def uptoBulkEntry {H : Type} : Lit × DataW H → Nat
  | (.string bytes, d) => bytes.length + uptoBulk d + 1
  | (_, d) => uptoBulk d + 1
 end
def uptoSmall : (H : Type) → List (DataW H) → Bool := fun _ ds => decide (uptoBulkAll ds ≤ 1048576)
def OpenSpec.upto (s : _root_.Go.ChangeSpec) : _root_.Go.OpenSpec := { _root_.Go.OpenSpec.ofChange s with cond := some uptoSmall }

/-- 'transputerlaw19.TraceExact', WHERE WHAT IT READS IS OF BULK AT MOST 1048576: true; the input reads as it did. -/
def traceExactUptoRow : OpenClaim := { program := "ytkbolbpojpmicaagreat", sum := "0574660b0f39fe819eb9ac15e9e1dd6359fc5786efaaaa56b6e2a358a75a016f", func := "transputer/transputerlaw19.TraceExact", spec := "traceExact", unfollowed := true, recurses := true, loops := true, apart := false, narrowed := true }
def TraceExactUptoSaid : Prop := traceExactUptoRow.holds Tryz.pinned (OpenSpec.upto traceExactSpec)

/-- 'transputerlaw19.TraceChans', WHERE WHAT IT READS IS OF BULK AT MOST 1048576: true; the input reads as it did. -/
def traceChansUptoRow : OpenClaim := { program := "ytkbolbpojpmicaagreat", sum := "0574660b0f39fe819eb9ac15e9e1dd6359fc5786efaaaa56b6e2a358a75a016f", func := "transputer/transputerlaw19.TraceChans", spec := "traceChans", unfollowed := true, recurses := true, loops := true, apart := false, narrowed := true }
def TraceChansUptoSaid : Prop := traceChansUptoRow.holds Tryz.pinned (OpenSpec.upto traceChansSpec)

/-- 'transputerlaw19.TracePrefix', WHERE WHAT IT READS IS OF BULK AT MOST 1048576: true; the input reads as it did. -/
def tracePrefixUptoRow : OpenClaim := { program := "ytkbolbpojpmicaagreat", sum := "0574660b0f39fe819eb9ac15e9e1dd6359fc5786efaaaa56b6e2a358a75a016f", func := "transputer/transputerlaw19.TracePrefix", spec := "tracePrefix", unfollowed := true, recurses := true, loops := true, apart := false, narrowed := true }
def TracePrefixUptoSaid : Prop := tracePrefixUptoRow.holds Tryz.pinned (OpenSpec.upto tracePrefixSpec)

/-- 'transputerlaw19.TraceFuel', WHERE WHAT IT READS IS OF BULK AT MOST 1048576: true; the input reads as it did. -/
def traceFuelUptoRow : OpenClaim := { program := "ytkbolbpojpmicaagreat", sum := "0574660b0f39fe819eb9ac15e9e1dd6359fc5786efaaaa56b6e2a358a75a016f", func := "transputer/transputerlaw19.TraceFuel", spec := "traceFuel", unfollowed := true, recurses := true, loops := true, apart := false, narrowed := true }
def TraceFuelUptoSaid : Prop := traceFuelUptoRow.holds Tryz.pinned (OpenSpec.upto traceFuelSpec)

/-- 'transputerlaw19.TraceTurned', WHERE WHAT IT READS IS OF BULK AT MOST 1048576: true; the input reads as it did. -/
def traceTurnedUptoRow : OpenClaim := { program := "ytkbolbpojpmicaagreat", sum := "0574660b0f39fe819eb9ac15e9e1dd6359fc5786efaaaa56b6e2a358a75a016f", func := "transputer/transputerlaw19.TraceTurned", spec := "traceTurned", unfollowed := true, recurses := true, loops := true, apart := false, narrowed := true }
def TraceTurnedUptoSaid : Prop := traceTurnedUptoRow.holds Tryz.pinned (OpenSpec.upto traceTurnedSpec)

/-- 'transputerlaw19.TraceSkip', WHERE WHAT IT READS IS OF BULK AT MOST 1048576: true; the input reads as it did. -/
def traceSkipUptoRow : OpenClaim := { program := "ytkbolbpojpmicaagreat", sum := "0574660b0f39fe819eb9ac15e9e1dd6359fc5786efaaaa56b6e2a358a75a016f", func := "transputer/transputerlaw19.TraceSkip", spec := "traceSkip", unfollowed := true, recurses := true, loops := true, apart := false, narrowed := true }
def TraceSkipUptoSaid : Prop := traceSkipUptoRow.holds Tryz.pinned (OpenSpec.upto traceSkipSpec)

/-- 'transputerlaw19.TraceEnds', WHERE WHAT IT READS IS OF BULK AT MOST 1048576: true; the input reads as it did. -/
def traceEndsUptoRow : OpenClaim := { program := "ytkbolbpojpmicaagreat", sum := "0574660b0f39fe819eb9ac15e9e1dd6359fc5786efaaaa56b6e2a358a75a016f", func := "transputer/transputerlaw19.TraceEnds", spec := "traceEnds", unfollowed := true, recurses := true, loops := true, apart := false, narrowed := true }
def TraceEndsUptoSaid : Prop := traceEndsUptoRow.holds Tryz.pinned (OpenSpec.upto traceEndsSpec)

/-- 'transputertop.TopMeaning', WHERE WHAT IT READS IS OF BULK AT MOST 1048576: true; the input reads as it did. -/
def topMeaningUptoRow : OpenClaim := { program := "ytkbolbpojpmicaagreat", sum := "0574660b0f39fe819eb9ac15e9e1dd6359fc5786efaaaa56b6e2a358a75a016f", func := "transputer/transputertop.TopMeaning", spec := "topMeaning", unfollowed := true, recurses := true, loops := true, apart := false, narrowed := true }
def TopMeaningUptoSaid : Prop := topMeaningUptoRow.holds Tryz.pinned (OpenSpec.upto topMeaningSpec)

/-- 'transputertop.TopWalk', WHERE WHAT IT READS IS OF BULK AT MOST 1048576: true; the input reads as it did. -/
def topWalkUptoRow : OpenClaim := { program := "ytkbolbpojpmicaagreat", sum := "0574660b0f39fe819eb9ac15e9e1dd6359fc5786efaaaa56b6e2a358a75a016f", func := "transputer/transputertop.TopWalk", spec := "topWalk", unfollowed := true, recurses := true, loops := true, apart := false, narrowed := true }
def TopWalkUptoSaid : Prop := topWalkUptoRow.holds Tryz.pinned (OpenSpec.upto topWalkSpec)

/-- 'transputertop.TopDetermined', WHERE WHAT IT READS IS OF BULK AT MOST 1048576: true; the input reads as it did. -/
def topDeterminedUptoRow : OpenClaim := { program := "ytkbolbpojpmicaagreat", sum := "0574660b0f39fe819eb9ac15e9e1dd6359fc5786efaaaa56b6e2a358a75a016f", func := "transputer/transputertop.TopDetermined", spec := "topDetermined", unfollowed := true, recurses := true, loops := true, apart := false, narrowed := true }
def TopDeterminedUptoSaid : Prop := topDeterminedUptoRow.holds Tryz.pinned (OpenSpec.upto topDeterminedSpec)

end Rows
end Go.Proofs.YtkbolbpojpmicaaGreat
