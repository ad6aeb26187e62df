/-
  NARROWER THAN 'FOR EVERY INPUT', by the rows' own cells (each row's printed sentence says how): DepthExact: loops, laid · DepthParts: loops, laid · DepthTurned: loops, laid · DepthGrows: loops, laid.
  DERIVED. THE GIVEN ROWS OF THIS SEAT. 4 by the template 'for every input the law returns true; each argument reads behind the call as it read before'; 0 by the template 'total and deterministic' (their statements: YtppapfhfkkafdaaDoorTotals.lean).
  GIVEN WITH THE SEED: the statements are not yours to turn. If you find one false, say at which input.
  Laid BY PROGRAM, IN A SANDBOX (cutbox-rows.mjs): the forced cells as the released guide's own fill.sh prints them over the translation 1688f1adc6a4fa6f… (all of the seat's roots in one cut). By AI agents, Wed Nov 11 2026. No macro, syntax, notation, axiom, sorry.
-/
import Derived.Test.YtppapfhfkkafdaaDoorChecked
import GoSem.Claim
import GoSem.ClaimJoined
import GoSem.ClaimMapViews
import Derived.JoinedTies
import Derived.KernelRfl
namespace Go.Proofs.YtppapfhfkkafdaaDoor
/- THE CELL 'sum', in the pinned program and in every row, IS THE sha256 OF THE DUMP (.gsa) THAT YtppapfhfkkafdaaDoorProg.lean LOADS. Nothing in Lean hashes anything: it is a label: what it is worth is what the hold of that sum in a sandbox is worth. -/
noncomputable def Tryd.pinned : Pinned := { name := "ytppapfhfkkafdaadoor", sum := "1688f1adc6a4fa6fb6f8ba5d580def1e3cf511eabb5298d079f6dae1e96b676c", checked := Tryd.checked }
namespace Rows
def none {H : Type} : Left H := { results := [], args := [] }

/- WHAT THE LISTED PACKAGE-LEVEL VARIABLES READ AS WHEN THE CALL BEGINS. Each datum BY PROGRAM (the guide's laid-datum.mjs) off the statement by which the dump's own 'gosem.cut.vars' lays the variable. In a bare row this is a premise. The card (YtppapfhfkkafdaaDoorCards.lean) ties it to the program's text. -/
def laid_transputer_depth_quiet {H : Type} : DataW H := .agg [.lit (.bool false), .lit (.bool false), .lit (.bool false), .lit (.bool false), .lit (.bool false), .lit (.bool false), .lit (.bool true), .lit (.bool true), .lit (.bool true), .lit (.bool true), .lit (.bool true), .lit (.bool true), .lit (.bool true), .lit (.bool true), .lit (.bool true), .lit (.bool true), .lit (.bool true), .lit (.bool true), .lit (.bool true), .lit (.bool true), .lit (.bool true), .lit (.bool true), .lit (.bool true), .lit (.bool false), .lit (.bool true), .lit (.bool true), .lit (.bool true)]

/-- 'transputerlaw22.DepthExact': WHATEVER THE INPUT: true; the input reads as it did. -/
def depthExactSpec : ChangeSpec := { name := "depthExact", fn := fun _ => fun
  | [d] => { results := [.lit (.bool true)], args := [d] }
  | _ => none }
def depthExactRow : OpenClaim := { program := "ytppapfhfkkafdaadoor", sum := "1688f1adc6a4fa6fb6f8ba5d580def1e3cf511eabb5298d079f6dae1e96b676c", func := "transputer/transputerlaw22.DepthExact", spec := "depthExact", unfollowed := true, recurses := true, named := ["transputer/depth.quiet"], loops := true, apart := false, laid := [("transputer/depth.quiet", laid_transputer_depth_quiet)] }
def DepthExactSaid : Prop := depthExactRow.holds Tryd.pinned (OpenSpec.ofChange depthExactSpec)

/-- ITS FALSE NEIGHBOUR: 'it returns false'. Refute it at one input. -/
def depthExactWrong : ChangeSpec := { name := "depthExact", fn := fun _ => fun
  | [d] => { results := [.lit (.bool false)], args := [d] }
  | _ => none }
def DepthExactWrongFalsely : Prop := depthExactRow.holds Tryd.pinned (OpenSpec.ofChange depthExactWrong)

/-- 'transputerlaw22.DepthParts': WHATEVER THE INPUT: true; the input reads as it did. -/
def depthPartsSpec : ChangeSpec := { name := "depthParts", fn := fun _ => fun
  | [d] => { results := [.lit (.bool true)], args := [d] }
  | _ => none }
def depthPartsRow : OpenClaim := { program := "ytppapfhfkkafdaadoor", sum := "1688f1adc6a4fa6fb6f8ba5d580def1e3cf511eabb5298d079f6dae1e96b676c", func := "transputer/transputerlaw22.DepthParts", spec := "depthParts", unfollowed := true, recurses := true, named := ["transputer/depth.quiet"], loops := true, apart := false, laid := [("transputer/depth.quiet", laid_transputer_depth_quiet)] }
def DepthPartsSaid : Prop := depthPartsRow.holds Tryd.pinned (OpenSpec.ofChange depthPartsSpec)

/-- ITS FALSE NEIGHBOUR: 'it returns false'. Refute it at one input. -/
def depthPartsWrong : ChangeSpec := { name := "depthParts", fn := fun _ => fun
  | [d] => { results := [.lit (.bool false)], args := [d] }
  | _ => none }
def DepthPartsWrongFalsely : Prop := depthPartsRow.holds Tryd.pinned (OpenSpec.ofChange depthPartsWrong)

/-- 'transputerlaw22.DepthTurned': WHATEVER THE INPUT: true; the input reads as it did. -/
def depthTurnedSpec : ChangeSpec := { name := "depthTurned", fn := fun _ => fun
  | [d] => { results := [.lit (.bool true)], args := [d] }
  | _ => none }
def depthTurnedRow : OpenClaim := { program := "ytppapfhfkkafdaadoor", sum := "1688f1adc6a4fa6fb6f8ba5d580def1e3cf511eabb5298d079f6dae1e96b676c", func := "transputer/transputerlaw22.DepthTurned", spec := "depthTurned", unfollowed := true, recurses := true, named := ["transputer/depth.quiet"], loops := true, apart := false, laid := [("transputer/depth.quiet", laid_transputer_depth_quiet)] }
def DepthTurnedSaid : Prop := depthTurnedRow.holds Tryd.pinned (OpenSpec.ofChange depthTurnedSpec)

/-- ITS FALSE NEIGHBOUR: 'it returns false'. Refute it at one input. -/
def depthTurnedWrong : ChangeSpec := { name := "depthTurned", fn := fun _ => fun
  | [d] => { results := [.lit (.bool false)], args := [d] }
  | _ => none }
def DepthTurnedWrongFalsely : Prop := depthTurnedRow.holds Tryd.pinned (OpenSpec.ofChange depthTurnedWrong)

/-- 'transputerlaw22.DepthGrows': WHATEVER THE INPUT: true; the input reads as it did. -/
def depthGrowsSpec : ChangeSpec := { name := "depthGrows", fn := fun _ => fun
  | [d1, d2] => { results := [.lit (.bool true)], args := [d1, d2] }
  | _ => none }
def depthGrowsRow : OpenClaim := { program := "ytppapfhfkkafdaadoor", sum := "1688f1adc6a4fa6fb6f8ba5d580def1e3cf511eabb5298d079f6dae1e96b676c", func := "transputer/transputerlaw22.DepthGrows", spec := "depthGrows", unfollowed := true, recurses := true, named := ["transputer/depth.quiet"], loops := true, apart := false, laid := [("transputer/depth.quiet", laid_transputer_depth_quiet)] }
def DepthGrowsSaid : Prop := depthGrowsRow.holds Tryd.pinned (OpenSpec.ofChange depthGrowsSpec)

/-- ITS FALSE NEIGHBOUR: 'it returns false'. Refute it at one input. -/
def depthGrowsWrong : ChangeSpec := { name := "depthGrows", fn := fun _ => fun
  | [d1, d2] => { results := [.lit (.bool false)], args := [d1, d2] }
  | _ => none }
def DepthGrowsWrongFalsely : Prop := depthGrowsRow.holds Tryd.pinned (OpenSpec.ofChange depthGrowsWrong)

/- THE SECOND FORM. 'bulk': how many values and letters a reading holds, each counted each time it is reached (what is shared counts as often as it is met; a slice's spare places count too). A statement '..UptoSaid' is the law's where the arguments, and the package variables that the reading takes, are together of bulk at most 1048576: NARROWER than '..Said'. Prove '..Said' where nothing that the law and all that it calls make is longer than what came in: it says more and counts as full. Else prove '..UptoSaid'. A law counts once. -/
mutual
def uptoBulk {H : Type} : DataW H → Nat
  | .lit (.string bytes) => bytes.length + 1
  | .lit _ => 1
  | .nil => 1
  | .ptr d => uptoBulk d + 1
  | .slice elems spare => uptoBulkAll elems + uptoBulkAll spare + 1
  | .agg parts => uptoBulkAll parts + 1
  | .iface _ d => uptoBulk d + 1
  | .map entries => uptoBulkEntries entries + 1
  | .held _ => 1
def uptoBulkAll {H : Type} : List (DataW H) → Nat
  | [] => 0
  | d :: r => uptoBulk d + uptoBulkAll r
def uptoBulkEntries {H : Type} : List (Lit × DataW H) → Nat
  | [] => 0
  | x :: r => uptoBulkEntry x + uptoBulkEntries r
def uptoBulkEntry {H : Type} : Lit × DataW H → Nat
  | (.string bytes, d) => bytes.length + uptoBulk d + 1
  | (_, d) => uptoBulk d + 1
 end
def uptoSmall : (H : Type) → List (DataW H) → Bool := fun _ ds => decide (uptoBulkAll ds ≤ 1048576)
def OpenSpec.upto (s : _root_.Go.ChangeSpec) : _root_.Go.OpenSpec := { _root_.Go.OpenSpec.ofChange s with cond := some uptoSmall }

/-- 'transputerlaw22.DepthExact', WHERE WHAT IT READS IS OF BULK AT MOST 1048576: true; the input reads as it did. -/
def depthExactUptoRow : OpenClaim := { program := "ytppapfhfkkafdaadoor", sum := "1688f1adc6a4fa6fb6f8ba5d580def1e3cf511eabb5298d079f6dae1e96b676c", func := "transputer/transputerlaw22.DepthExact", spec := "depthExact", unfollowed := true, recurses := true, named := ["transputer/depth.quiet"], loops := true, apart := false, laid := [("transputer/depth.quiet", laid_transputer_depth_quiet)], narrowed := true }
def DepthExactUptoSaid : Prop := depthExactUptoRow.holds Tryd.pinned (OpenSpec.upto depthExactSpec)

/-- 'transputerlaw22.DepthParts', WHERE WHAT IT READS IS OF BULK AT MOST 1048576: true; the input reads as it did. -/
def depthPartsUptoRow : OpenClaim := { program := "ytppapfhfkkafdaadoor", sum := "1688f1adc6a4fa6fb6f8ba5d580def1e3cf511eabb5298d079f6dae1e96b676c", func := "transputer/transputerlaw22.DepthParts", spec := "depthParts", unfollowed := true, recurses := true, named := ["transputer/depth.quiet"], loops := true, apart := false, laid := [("transputer/depth.quiet", laid_transputer_depth_quiet)], narrowed := true }
def DepthPartsUptoSaid : Prop := depthPartsUptoRow.holds Tryd.pinned (OpenSpec.upto depthPartsSpec)

/-- 'transputerlaw22.DepthTurned', WHERE WHAT IT READS IS OF BULK AT MOST 1048576: true; the input reads as it did. -/
def depthTurnedUptoRow : OpenClaim := { program := "ytppapfhfkkafdaadoor", sum := "1688f1adc6a4fa6fb6f8ba5d580def1e3cf511eabb5298d079f6dae1e96b676c", func := "transputer/transputerlaw22.DepthTurned", spec := "depthTurned", unfollowed := true, recurses := true, named := ["transputer/depth.quiet"], loops := true, apart := false, laid := [("transputer/depth.quiet", laid_transputer_depth_quiet)], narrowed := true }
def DepthTurnedUptoSaid : Prop := depthTurnedUptoRow.holds Tryd.pinned (OpenSpec.upto depthTurnedSpec)

/-- 'transputerlaw22.DepthGrows', WHERE WHAT IT READS IS OF BULK AT MOST 1048576: true; the input reads as it did. -/
def depthGrowsUptoRow : OpenClaim := { program := "ytppapfhfkkafdaadoor", sum := "1688f1adc6a4fa6fb6f8ba5d580def1e3cf511eabb5298d079f6dae1e96b676c", func := "transputer/transputerlaw22.DepthGrows", spec := "depthGrows", unfollowed := true, recurses := true, named := ["transputer/depth.quiet"], loops := true, apart := false, laid := [("transputer/depth.quiet", laid_transputer_depth_quiet)], narrowed := true }
def DepthGrowsUptoSaid : Prop := depthGrowsUptoRow.holds Tryd.pinned (OpenSpec.upto depthGrowsSpec)

end Rows
end Go.Proofs.YtppapfhfkkafdaaDoor
