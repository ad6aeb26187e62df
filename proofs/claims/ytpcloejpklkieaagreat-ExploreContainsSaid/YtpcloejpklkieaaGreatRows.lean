/-
  NARROWER THAN 'FOR EVERY INPUT', by the rows' own cells (each row's printed sentence says how): ExploreContains: loops · ExploreOrder: loops · ExploreStuck: loops.
  DERIVED. THE GIVEN ROWS OF THIS SEAT. 4 by the template 'for every input the law returns true; each argument reads behind the call as it read before'; 0 by the template 'total and deterministic' (their statements: YtpcloejpklkieaaGreatTotals.lean).
  GIVEN WITH THE SEED: the statements are not yours to turn. If you find one false, say at which input.
  Laid BY PROGRAM, IN A SANDBOX (cutbox-rows.mjs): the forced cells as the released guide's own fill.sh prints them over the translation 09e107b74382dfa7… (all of the seat's roots in one cut). By AI agents, Wed Nov 11 2026. No macro, syntax, notation, axiom, sorry.
-/
import Derived.Test.YtpcloejpklkieaaGreatChecked
import GoSem.Claim
import GoSem.ClaimJoined
import GoSem.ClaimMapViews
import Derived.JoinedTies
import Derived.KernelRfl
namespace Go.Proofs.YtpcloejpklkieaaGreat
/- THE CELL 'sum', in the pinned program and in every row, IS THE sha256 OF THE DUMP (.gsa) THAT YtpcloejpklkieaaGreatProg.lean LOADS. Nothing in Lean hashes anything: it is a label: what it is worth is what the hold of that sum in a sandbox is worth. -/
noncomputable def Tryz.pinned : Pinned := { name := "ytpcloejpklkieaagreat", sum := "09e107b74382dfa7ccbae35ca6975bd475784856b923bff990bce4358425bd32", checked := Tryz.checked }
namespace Rows
def none {H : Type} : Left H := { results := [], args := [] }

/-- 'transputerlaw20.ExploreContains': WHATEVER THE INPUT: true; the input reads as it did. -/
def exploreContainsSpec : ChangeSpec := { name := "exploreContains", fn := fun _ => fun
  | [d1, d2, d3] => { results := [.lit (.bool true)], args := [d1, d2, d3] }
  | _ => none }
def exploreContainsRow : OpenClaim := { program := "ytpcloejpklkieaagreat", sum := "09e107b74382dfa7ccbae35ca6975bd475784856b923bff990bce4358425bd32", func := "transputer/transputerlaw20.ExploreContains", spec := "exploreContains", unfollowed := true, recurses := true, loops := true, apart := false }
def ExploreContainsSaid : Prop := exploreContainsRow.holds Tryz.pinned (OpenSpec.ofChange exploreContainsSpec)

/-- ITS FALSE NEIGHBOUR: 'it returns false'. Refute it at one input. -/
def exploreContainsWrong : ChangeSpec := { name := "exploreContains", fn := fun _ => fun
  | [d1, d2, d3] => { results := [.lit (.bool false)], args := [d1, d2, d3] }
  | _ => none }
def ExploreContainsWrongFalsely : Prop := exploreContainsRow.holds Tryz.pinned (OpenSpec.ofChange exploreContainsWrong)

/-- 'transputerlaw20.ExploreOrder': WHATEVER THE INPUT: true; the input reads as it did. -/
def exploreOrderSpec : ChangeSpec := { name := "exploreOrder", fn := fun _ => fun
  | [d1, d2, d3] => { results := [.lit (.bool true)], args := [d1, d2, d3] }
  | _ => none }
def exploreOrderRow : OpenClaim := { program := "ytpcloejpklkieaagreat", sum := "09e107b74382dfa7ccbae35ca6975bd475784856b923bff990bce4358425bd32", func := "transputer/transputerlaw20.ExploreOrder", spec := "exploreOrder", unfollowed := true, recurses := true, loops := true, apart := false }
def ExploreOrderSaid : Prop := exploreOrderRow.holds Tryz.pinned (OpenSpec.ofChange exploreOrderSpec)

/-- ITS FALSE NEIGHBOUR: 'it returns false'. Refute it at one input. -/
def exploreOrderWrong : ChangeSpec := { name := "exploreOrder", fn := fun _ => fun
  | [d1, d2, d3] => { results := [.lit (.bool false)], args := [d1, d2, d3] }
  | _ => none }
def ExploreOrderWrongFalsely : Prop := exploreOrderRow.holds Tryz.pinned (OpenSpec.ofChange exploreOrderWrong)

/-- 'transputerlaw20.ExploreStuck': WHATEVER THE INPUT: true; the input reads as it did. -/
def exploreStuckSpec : ChangeSpec := { name := "exploreStuck", fn := fun _ => fun
  | [d1, d2, d3] => { results := [.lit (.bool true)], args := [d1, d2, d3] }
  | _ => none }
def exploreStuckRow : OpenClaim := { program := "ytpcloejpklkieaagreat", sum := "09e107b74382dfa7ccbae35ca6975bd475784856b923bff990bce4358425bd32", func := "transputer/transputerlaw20.ExploreStuck", spec := "exploreStuck", unfollowed := true, recurses := true, loops := true, apart := false }
def ExploreStuckSaid : Prop := exploreStuckRow.holds Tryz.pinned (OpenSpec.ofChange exploreStuckSpec)

/-- ITS FALSE NEIGHBOUR: 'it returns false'. Refute it at one input. -/
def exploreStuckWrong : ChangeSpec := { name := "exploreStuck", fn := fun _ => fun
  | [d1, d2, d3] => { results := [.lit (.bool false)], args := [d1, d2, d3] }
  | _ => none }
def ExploreStuckWrongFalsely : Prop := exploreStuckRow.holds Tryz.pinned (OpenSpec.ofChange exploreStuckWrong)

/-- 'transputerlaw20.ExploreKnown': WHATEVER THE INPUT: true; the input reads as it did. -/
def exploreKnownSpec : ChangeSpec := { name := "exploreKnown", fn := fun _ => fun
  | [] => { results := [.lit (.bool true)], args := [] }
  | _ => none }
def exploreKnownRow : OpenClaim := { program := "ytpcloejpklkieaagreat", sum := "09e107b74382dfa7ccbae35ca6975bd475784856b923bff990bce4358425bd32", func := "transputer/transputerlaw20.ExploreKnown", spec := "exploreKnown", unfollowed := true, recurses := true, apart := false }
def ExploreKnownSaid : Prop := exploreKnownRow.holds Tryz.pinned (OpenSpec.ofChange exploreKnownSpec)

/-- ITS FALSE NEIGHBOUR: 'it returns false'. Refute it at one input. -/
def exploreKnownWrong : ChangeSpec := { name := "exploreKnown", fn := fun _ => fun
  | [] => { results := [.lit (.bool false)], args := [] }
  | _ => none }
def ExploreKnownWrongFalsely : Prop := exploreKnownRow.holds Tryz.pinned (OpenSpec.ofChange exploreKnownWrong)

/- THE SECOND FORM. 'bulk': how many values and letters a reading holds, each counted each time it is reached (what is shared counts as often as it is met; a slice's spare places count too). A statement '..UptoSaid' is the law's where the arguments, and the package variables that the reading takes, are together of bulk at most 1048576: NARROWER than '..Said'. Prove '..Said' where nothing that the law and all that it calls make is longer than what came in: it says more and counts as full. Else prove '..UptoSaid'. A law counts once. -/
mutual
def uptoBulk {H : Type} : DataW H → Nat
  | .lit (.string bytes) => bytes.length + 1
  | .lit _ => 1
  | .nil => 1
  | .ptr d => uptoBulk d + 1
  | .slice elems spare => uptoBulkAll elems + uptoBulkAll spare + 1
  | .agg parts => uptoBulkAll parts + 1
  | .iface _ d => uptoBulk d + 1
  | .map entries => uptoBulkEntries entries + 1
  | .held _ => 1
def uptoBulkAll {H : Type} : List (DataW H) → Nat
  | [] => 0
  | d :: r => uptoBulk d + uptoBulkAll r
def uptoBulkEntries {H : Type} : List (Lit × DataW H) → Nat
  | [] => 0
  | x :: r => uptoBulkEntry x + uptoBulkEntries r
def uptoBulkEntry {H : Type} : Lit × DataW H → Nat
  | (.string bytes, d) => bytes.length + uptoBulk d + 1
  | (_, d) => uptoBulk d + 1
 end
def uptoSmall : (H : Type) → List (DataW H) → Bool := fun _ ds => decide (uptoBulkAll ds ≤ 1048576)
def OpenSpec.upto (s : _root_.Go.ChangeSpec) : _root_.Go.OpenSpec := { _root_.Go.OpenSpec.ofChange s with cond := some uptoSmall }

/-- 'transputerlaw20.ExploreContains', WHERE WHAT IT READS IS OF BULK AT MOST 1048576: true; the input reads as it did. -/
def exploreContainsUptoRow : OpenClaim := { program := "ytpcloejpklkieaagreat", sum := "09e107b74382dfa7ccbae35ca6975bd475784856b923bff990bce4358425bd32", func := "transputer/transputerlaw20.ExploreContains", spec := "exploreContains", unfollowed := true, recurses := true, loops := true, apart := false, narrowed := true }
def ExploreContainsUptoSaid : Prop := exploreContainsUptoRow.holds Tryz.pinned (OpenSpec.upto exploreContainsSpec)

/-- 'transputerlaw20.ExploreOrder', WHERE WHAT IT READS IS OF BULK AT MOST 1048576: true; the input reads as it did. -/
def exploreOrderUptoRow : OpenClaim := { program := "ytpcloejpklkieaagreat", sum := "09e107b74382dfa7ccbae35ca6975bd475784856b923bff990bce4358425bd32", func := "transputer/transputerlaw20.ExploreOrder", spec := "exploreOrder", unfollowed := true, recurses := true, loops := true, apart := false, narrowed := true }
def ExploreOrderUptoSaid : Prop := exploreOrderUptoRow.holds Tryz.pinned (OpenSpec.upto exploreOrderSpec)

/-- 'transputerlaw20.ExploreStuck', WHERE WHAT IT READS IS OF BULK AT MOST 1048576: true; the input reads as it did. -/
def exploreStuckUptoRow : OpenClaim := { program := "ytpcloejpklkieaagreat", sum := "09e107b74382dfa7ccbae35ca6975bd475784856b923bff990bce4358425bd32", func := "transputer/transputerlaw20.ExploreStuck", spec := "exploreStuck", unfollowed := true, recurses := true, loops := true, apart := false, narrowed := true }
def ExploreStuckUptoSaid : Prop := exploreStuckUptoRow.holds Tryz.pinned (OpenSpec.upto exploreStuckSpec)

/-- 'transputerlaw20.ExploreKnown', WHERE WHAT IT READS IS OF BULK AT MOST 1048576: true; the input reads as it did. -/
def exploreKnownUptoRow : OpenClaim := { program := "ytpcloejpklkieaagreat", sum := "09e107b74382dfa7ccbae35ca6975bd475784856b923bff990bce4358425bd32", func := "transputer/transputerlaw20.ExploreKnown", spec := "exploreKnown", unfollowed := true, recurses := true, apart := false, narrowed := true }
def ExploreKnownUptoSaid : Prop := exploreKnownUptoRow.holds Tryz.pinned (OpenSpec.upto exploreKnownSpec)

end Rows
end Go.Proofs.YtpcloejpklkieaaGreat
