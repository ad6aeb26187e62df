/-
  NARROWER THAN 'FOR EVERY INPUT', by the rows' own cells (each row's printed sentence says how): UsageOf: loops · UsageAll: loops · UsageUnion: loops · UsageExact: loops · UsageTurned: loops · UsageReads: loops · UsageSwaps: loops.
  DERIVED. THE GIVEN ROWS OF THIS SEAT. 7 by the template 'for every input the law returns true; each argument reads behind the call as it read before'; 0 by the template 'total and deterministic' (their statements: YtafcodjilcljeaaGreatTotals.lean).
  GIVEN WITH THE SEED: the statements are not yours to turn. If you find one false, say at which input.
  Laid BY PROGRAM, IN A SANDBOX (cutbox-rows.mjs): the forced cells as the released guide's own fill.sh prints them over the translation 5c10a00f30fded53… (all of the seat's roots in one cut). By AI agents, Wed Nov 11 2026. No macro, syntax, notation, axiom, sorry.
-/
import Derived.Test.YtafcodjilcljeaaGreatChecked
import GoSem.Claim
import GoSem.ClaimJoined
import GoSem.ClaimMapViews
import Derived.JoinedTies
import Derived.KernelRfl
namespace Go.Proofs.YtafcodjilcljeaaGreat
/- THE CELL 'sum', in the pinned program and in every row, IS THE sha256 OF THE DUMP (.gsa) THAT YtafcodjilcljeaaGreatProg.lean LOADS. Nothing in Lean hashes anything: it is a label: what it is worth is what the hold of that sum in a sandbox is worth. -/
noncomputable def Tryz.pinned : Pinned := { name := "ytafcodjilcljeaagreat", sum := "5c10a00f30fded5304e6d00bebfc2ffe203acb521ffc369d9f6a2e9686d05eaa", checked := Tryz.checked }
namespace Rows
def none {H : Type} : Left H := { results := [], args := [] }

/-- 'transputerlaw21.UsageOf': WHATEVER THE INPUT: true; the input reads as it did. -/
def usageOfSpec : ChangeSpec := { name := "usageOf", fn := fun _ => fun
  | [d1, d2] => { results := [.lit (.bool true)], args := [d1, d2] }
  | _ => none }
def usageOfRow : OpenClaim := { program := "ytafcodjilcljeaagreat", sum := "5c10a00f30fded5304e6d00bebfc2ffe203acb521ffc369d9f6a2e9686d05eaa", func := "transputer/transputerlaw21.UsageOf", spec := "usageOf", unfollowed := true, recurses := true, loops := true, apart := false }
def UsageOfSaid : Prop := usageOfRow.holds Tryz.pinned (OpenSpec.ofChange usageOfSpec)

/-- ITS FALSE NEIGHBOUR: 'it returns false'. Refute it at one input. -/
def usageOfWrong : ChangeSpec := { name := "usageOf", fn := fun _ => fun
  | [d1, d2] => { results := [.lit (.bool false)], args := [d1, d2] }
  | _ => none }
def UsageOfWrongFalsely : Prop := usageOfRow.holds Tryz.pinned (OpenSpec.ofChange usageOfWrong)

/-- 'transputerlaw21.UsageAll': WHATEVER THE INPUT: true; the input reads as it did. -/
def usageAllSpec : ChangeSpec := { name := "usageAll", fn := fun _ => fun
  | [d] => { results := [.lit (.bool true)], args := [d] }
  | _ => none }
def usageAllRow : OpenClaim := { program := "ytafcodjilcljeaagreat", sum := "5c10a00f30fded5304e6d00bebfc2ffe203acb521ffc369d9f6a2e9686d05eaa", func := "transputer/transputerlaw21.UsageAll", spec := "usageAll", unfollowed := true, recurses := true, loops := true, apart := false }
def UsageAllSaid : Prop := usageAllRow.holds Tryz.pinned (OpenSpec.ofChange usageAllSpec)

/-- ITS FALSE NEIGHBOUR: 'it returns false'. Refute it at one input. -/
def usageAllWrong : ChangeSpec := { name := "usageAll", fn := fun _ => fun
  | [d] => { results := [.lit (.bool false)], args := [d] }
  | _ => none }
def UsageAllWrongFalsely : Prop := usageAllRow.holds Tryz.pinned (OpenSpec.ofChange usageAllWrong)

/-- 'transputerlaw21.UsageUnion': WHATEVER THE INPUT: true; the input reads as it did. -/
def usageUnionSpec : ChangeSpec := { name := "usageUnion", fn := fun _ => fun
  | [d1, d2, d3] => { results := [.lit (.bool true)], args := [d1, d2, d3] }
  | _ => none }
def usageUnionRow : OpenClaim := { program := "ytafcodjilcljeaagreat", sum := "5c10a00f30fded5304e6d00bebfc2ffe203acb521ffc369d9f6a2e9686d05eaa", func := "transputer/transputerlaw21.UsageUnion", spec := "usageUnion", unfollowed := true, recurses := true, loops := true, apart := false }
def UsageUnionSaid : Prop := usageUnionRow.holds Tryz.pinned (OpenSpec.ofChange usageUnionSpec)

/-- ITS FALSE NEIGHBOUR: 'it returns false'. Refute it at one input. -/
def usageUnionWrong : ChangeSpec := { name := "usageUnion", fn := fun _ => fun
  | [d1, d2, d3] => { results := [.lit (.bool false)], args := [d1, d2, d3] }
  | _ => none }
def UsageUnionWrongFalsely : Prop := usageUnionRow.holds Tryz.pinned (OpenSpec.ofChange usageUnionWrong)

/-- 'transputerlaw21.UsageExact': WHATEVER THE INPUT: true; the input reads as it did. -/
def usageExactSpec : ChangeSpec := { name := "usageExact", fn := fun _ => fun
  | [d1, d2, d3] => { results := [.lit (.bool true)], args := [d1, d2, d3] }
  | _ => none }
def usageExactRow : OpenClaim := { program := "ytafcodjilcljeaagreat", sum := "5c10a00f30fded5304e6d00bebfc2ffe203acb521ffc369d9f6a2e9686d05eaa", func := "transputer/transputerlaw21.UsageExact", spec := "usageExact", unfollowed := true, recurses := true, loops := true, apart := false }
def UsageExactSaid : Prop := usageExactRow.holds Tryz.pinned (OpenSpec.ofChange usageExactSpec)

/-- ITS FALSE NEIGHBOUR: 'it returns false'. Refute it at one input. -/
def usageExactWrong : ChangeSpec := { name := "usageExact", fn := fun _ => fun
  | [d1, d2, d3] => { results := [.lit (.bool false)], args := [d1, d2, d3] }
  | _ => none }
def UsageExactWrongFalsely : Prop := usageExactRow.holds Tryz.pinned (OpenSpec.ofChange usageExactWrong)

/-- 'transputerlaw21.UsageTurned': WHATEVER THE INPUT: true; the input reads as it did. -/
def usageTurnedSpec : ChangeSpec := { name := "usageTurned", fn := fun _ => fun
  | [d1, d2, d3] => { results := [.lit (.bool true)], args := [d1, d2, d3] }
  | _ => none }
def usageTurnedRow : OpenClaim := { program := "ytafcodjilcljeaagreat", sum := "5c10a00f30fded5304e6d00bebfc2ffe203acb521ffc369d9f6a2e9686d05eaa", func := "transputer/transputerlaw21.UsageTurned", spec := "usageTurned", unfollowed := true, recurses := true, loops := true, apart := false }
def UsageTurnedSaid : Prop := usageTurnedRow.holds Tryz.pinned (OpenSpec.ofChange usageTurnedSpec)

/-- ITS FALSE NEIGHBOUR: 'it returns false'. Refute it at one input. -/
def usageTurnedWrong : ChangeSpec := { name := "usageTurned", fn := fun _ => fun
  | [d1, d2, d3] => { results := [.lit (.bool false)], args := [d1, d2, d3] }
  | _ => none }
def UsageTurnedWrongFalsely : Prop := usageTurnedRow.holds Tryz.pinned (OpenSpec.ofChange usageTurnedWrong)

/-- 'transputerlaw21.UsageReads': WHATEVER THE INPUT: true; the input reads as it did. -/
def usageReadsSpec : ChangeSpec := { name := "usageReads", fn := fun _ => fun
  | [d1, d2, d3, d4, d5] => { results := [.lit (.bool true)], args := [d1, d2, d3, d4, d5] }
  | _ => none }
def usageReadsRow : OpenClaim := { program := "ytafcodjilcljeaagreat", sum := "5c10a00f30fded5304e6d00bebfc2ffe203acb521ffc369d9f6a2e9686d05eaa", func := "transputer/transputerlaw21.UsageReads", spec := "usageReads", unfollowed := true, recurses := true, loops := true, apart := false }
def UsageReadsSaid : Prop := usageReadsRow.holds Tryz.pinned (OpenSpec.ofChange usageReadsSpec)

/-- ITS FALSE NEIGHBOUR: 'it returns false'. Refute it at one input. -/
def usageReadsWrong : ChangeSpec := { name := "usageReads", fn := fun _ => fun
  | [d1, d2, d3, d4, d5] => { results := [.lit (.bool false)], args := [d1, d2, d3, d4, d5] }
  | _ => none }
def UsageReadsWrongFalsely : Prop := usageReadsRow.holds Tryz.pinned (OpenSpec.ofChange usageReadsWrong)

/-- 'transputerlaw21.UsageSwaps': WHATEVER THE INPUT: true; the input reads as it did. -/
def usageSwapsSpec : ChangeSpec := { name := "usageSwaps", fn := fun _ => fun
  | [d1, d2, d3, d4] => { results := [.lit (.bool true)], args := [d1, d2, d3, d4] }
  | _ => none }
def usageSwapsRow : OpenClaim := { program := "ytafcodjilcljeaagreat", sum := "5c10a00f30fded5304e6d00bebfc2ffe203acb521ffc369d9f6a2e9686d05eaa", func := "transputer/transputerlaw21.UsageSwaps", spec := "usageSwaps", unfollowed := true, recurses := true, loops := true, apart := false }
def UsageSwapsSaid : Prop := usageSwapsRow.holds Tryz.pinned (OpenSpec.ofChange usageSwapsSpec)

/-- ITS FALSE NEIGHBOUR: 'it returns false'. Refute it at one input. -/
def usageSwapsWrong : ChangeSpec := { name := "usageSwaps", fn := fun _ => fun
  | [d1, d2, d3, d4] => { results := [.lit (.bool false)], args := [d1, d2, d3, d4] }
  | _ => none }
def UsageSwapsWrongFalsely : Prop := usageSwapsRow.holds Tryz.pinned (OpenSpec.ofChange usageSwapsWrong)

/- THE SECOND FORM. 'bulk': how many values and letters a reading holds, each counted each time it is reached (what is shared counts as often as it is met; a slice's spare places count too). A statement '..UptoSaid' is the law's where the arguments, and the package variables that the reading takes, are together of bulk at most 1048576: NARROWER than '..Said'. Prove '..Said' where nothing that the law and all that it calls make is longer than what came in: it says more and counts as full. Else prove '..UptoSaid'. A law counts once. -/
mutual
def uptoBulk {H : Type} : DataW H → Nat
  | .lit (.string bytes) => bytes.length + 1
  | .lit _ => 1
  | .nil => 1
  | .ptr d => uptoBulk d + 1
  | .slice elems spare => uptoBulkAll elems + uptoBulkAll spare + 1
  | .agg parts => uptoBulkAll parts + 1
  | .iface _ d => uptoBulk d + 1
  | .map entries => uptoBulkEntries entries + 1
  | .held _ => 1
def uptoBulkAll {H : Type} : List (DataW H) → Nat
  | [] => 0
  | d :: r => uptoBulk d + uptoBulkAll r
def uptoBulkEntries {H : Type} : List (Lit × DataW H) → Nat
  | [] => 0
  | x :: r => uptoBulkEntry x + uptoBulkEntries r
def uptoBulkEntry {H : Type} : Lit × DataW H → Nat
  | (.string bytes, d) => bytes.length + uptoBulk d + 1
  | (_, d) => uptoBulk d + 1
 end
def uptoSmall : (H : Type) → List (DataW H) → Bool := fun _ ds => decide (uptoBulkAll ds ≤ 1048576)
def OpenSpec.upto (s : _root_.Go.ChangeSpec) : _root_.Go.OpenSpec := { _root_.Go.OpenSpec.ofChange s with cond := some uptoSmall }

/-- 'transputerlaw21.UsageOf', WHERE WHAT IT READS IS OF BULK AT MOST 1048576: true; the input reads as it did. -/
def usageOfUptoRow : OpenClaim := { program := "ytafcodjilcljeaagreat", sum := "5c10a00f30fded5304e6d00bebfc2ffe203acb521ffc369d9f6a2e9686d05eaa", func := "transputer/transputerlaw21.UsageOf", spec := "usageOf", unfollowed := true, recurses := true, loops := true, apart := false, narrowed := true }
def UsageOfUptoSaid : Prop := usageOfUptoRow.holds Tryz.pinned (OpenSpec.upto usageOfSpec)

/-- 'transputerlaw21.UsageAll', WHERE WHAT IT READS IS OF BULK AT MOST 1048576: true; the input reads as it did. -/
def usageAllUptoRow : OpenClaim := { program := "ytafcodjilcljeaagreat", sum := "5c10a00f30fded5304e6d00bebfc2ffe203acb521ffc369d9f6a2e9686d05eaa", func := "transputer/transputerlaw21.UsageAll", spec := "usageAll", unfollowed := true, recurses := true, loops := true, apart := false, narrowed := true }
def UsageAllUptoSaid : Prop := usageAllUptoRow.holds Tryz.pinned (OpenSpec.upto usageAllSpec)

/-- 'transputerlaw21.UsageUnion', WHERE WHAT IT READS IS OF BULK AT MOST 1048576: true; the input reads as it did. -/
def usageUnionUptoRow : OpenClaim := { program := "ytafcodjilcljeaagreat", sum := "5c10a00f30fded5304e6d00bebfc2ffe203acb521ffc369d9f6a2e9686d05eaa", func := "transputer/transputerlaw21.UsageUnion", spec := "usageUnion", unfollowed := true, recurses := true, loops := true, apart := false, narrowed := true }
def UsageUnionUptoSaid : Prop := usageUnionUptoRow.holds Tryz.pinned (OpenSpec.upto usageUnionSpec)

/-- 'transputerlaw21.UsageExact', WHERE WHAT IT READS IS OF BULK AT MOST 1048576: true; the input reads as it did. -/
def usageExactUptoRow : OpenClaim := { program := "ytafcodjilcljeaagreat", sum := "5c10a00f30fded5304e6d00bebfc2ffe203acb521ffc369d9f6a2e9686d05eaa", func := "transputer/transputerlaw21.UsageExact", spec := "usageExact", unfollowed := true, recurses := true, loops := true, apart := false, narrowed := true }
def UsageExactUptoSaid : Prop := usageExactUptoRow.holds Tryz.pinned (OpenSpec.upto usageExactSpec)

/-- 'transputerlaw21.UsageTurned', WHERE WHAT IT READS IS OF BULK AT MOST 1048576: true; the input reads as it did. -/
def usageTurnedUptoRow : OpenClaim := { program := "ytafcodjilcljeaagreat", sum := "5c10a00f30fded5304e6d00bebfc2ffe203acb521ffc369d9f6a2e9686d05eaa", func := "transputer/transputerlaw21.UsageTurned", spec := "usageTurned", unfollowed := true, recurses := true, loops := true, apart := false, narrowed := true }
def UsageTurnedUptoSaid : Prop := usageTurnedUptoRow.holds Tryz.pinned (OpenSpec.upto usageTurnedSpec)

/-- 'transputerlaw21.UsageReads', WHERE WHAT IT READS IS OF BULK AT MOST 1048576: true; the input reads as it did. -/
def usageReadsUptoRow : OpenClaim := { program := "ytafcodjilcljeaagreat", sum := "5c10a00f30fded5304e6d00bebfc2ffe203acb521ffc369d9f6a2e9686d05eaa", func := "transputer/transputerlaw21.UsageReads", spec := "usageReads", unfollowed := true, recurses := true, loops := true, apart := false, narrowed := true }
def UsageReadsUptoSaid : Prop := usageReadsUptoRow.holds Tryz.pinned (OpenSpec.upto usageReadsSpec)

/-- 'transputerlaw21.UsageSwaps', WHERE WHAT IT READS IS OF BULK AT MOST 1048576: true; the input reads as it did. -/
def usageSwapsUptoRow : OpenClaim := { program := "ytafcodjilcljeaagreat", sum := "5c10a00f30fded5304e6d00bebfc2ffe203acb521ffc369d9f6a2e9686d05eaa", func := "transputer/transputerlaw21.UsageSwaps", spec := "usageSwaps", unfollowed := true, recurses := true, loops := true, apart := false, narrowed := true }
def UsageSwapsUptoSaid : Prop := usageSwapsUptoRow.holds Tryz.pinned (OpenSpec.upto usageSwapsSpec)

end Rows
end Go.Proofs.YtafcodjilcljeaaGreat
