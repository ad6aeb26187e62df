/-
  NARROWER THAN 'FOR EVERY INPUT', by the rows' own cells (each row's printed sentence says how): FoldAgain: loops · FoldKeeps: loops.
  DERIVED. THE GIVEN ROWS OF THIS SEAT. 6 by the template 'for every input the law returns true; each argument reads behind the call as it read before'; 0 by the template 'total and deterministic' (their statements: YtlnbmocgnkjlfaaTotals.lean).
  GIVEN WITH THE SEED: the statements are not yours to turn. If you find one false, say at which input.
  Laid BY PROGRAM, IN A SANDBOX (cutbox-rows.mjs): the forced cells as the released guide's own fill.sh prints them over the translation 16c99f5ac39bb7c5… (all of the seat's roots in one cut). By AI agents, Wed Nov 11 2026. No macro, syntax, notation, axiom, sorry.
-/
import Derived.Test.YtlnbmocgnkjlfaaChecked
import GoSem.Claim
import GoSem.ClaimJoined
import GoSem.ClaimMapViews
import Derived.JoinedTies
import Derived.KernelRfl
namespace Go.Proofs.Ytlnbmocgnkjlfaa
/- THE CELL 'sum', in the pinned program and in every row, IS THE sha256 OF THE DUMP (.gsa) THAT YtlnbmocgnkjlfaaProg.lean LOADS. Nothing in Lean hashes anything: it is a label: what it is worth is what the hold of that sum in a sandbox is worth. -/
noncomputable def Try.pinned : Pinned := { name := "ytlnbmocgnkjlfaa", sum := "16c99f5ac39bb7c5848161d3704d838b868d22897c9ace660b74bd737ee4d18b", checked := Try.checked }
namespace Rows
def none {H : Type} : Left H := { results := [], args := [] }

/-- 'transputerlaw14.FoldApply': WHATEVER THE INPUT: true; the input reads as it did. -/
def foldApplySpec : ChangeSpec := { name := "foldApply", fn := fun _ => fun
  | [d1, d2, d3] => { results := [.lit (.bool true)], args := [d1, d2, d3] }
  | _ => none }
def foldApplyRow : OpenClaim := { program := "ytlnbmocgnkjlfaa", sum := "16c99f5ac39bb7c5848161d3704d838b868d22897c9ace660b74bd737ee4d18b", func := "transputer/transputerlaw14.FoldApply", spec := "foldApply", inPlace := ["internal/bytealg.IndexByteString", "internal/bytealg.IndexString"], unfollowed := true, recurses := true, named := ["internal/bytealg.MaxLen"], apart := false }
def FoldApplySaid : Prop := foldApplyRow.holds Try.pinned (OpenSpec.ofChange foldApplySpec)

/-- ITS FALSE NEIGHBOUR: 'it returns false'. Refute it at one input. -/
def foldApplyWrong : ChangeSpec := { name := "foldApply", fn := fun _ => fun
  | [d1, d2, d3] => { results := [.lit (.bool false)], args := [d1, d2, d3] }
  | _ => none }
def FoldApplyWrongFalsely : Prop := foldApplyRow.holds Try.pinned (OpenSpec.ofChange foldApplyWrong)

/-- 'transputerlaw14.FoldAgain': WHATEVER THE INPUT: true; the input reads as it did. -/
def foldAgainSpec : ChangeSpec := { name := "foldAgain", fn := fun _ => fun
  | [d1, d2] => { results := [.lit (.bool true)], args := [d1, d2] }
  | _ => none }
def foldAgainRow : OpenClaim := { program := "ytlnbmocgnkjlfaa", sum := "16c99f5ac39bb7c5848161d3704d838b868d22897c9ace660b74bd737ee4d18b", func := "transputer/transputerlaw14.FoldAgain", spec := "foldAgain", inPlace := ["internal/bytealg.IndexByteString", "internal/bytealg.IndexString"], unfollowed := true, recurses := true, named := ["internal/bytealg.MaxLen"], loops := true, apart := false }
def FoldAgainSaid : Prop := foldAgainRow.holds Try.pinned (OpenSpec.ofChange foldAgainSpec)

/-- ITS FALSE NEIGHBOUR: 'it returns false'. Refute it at one input. -/
def foldAgainWrong : ChangeSpec := { name := "foldAgain", fn := fun _ => fun
  | [d1, d2] => { results := [.lit (.bool false)], args := [d1, d2] }
  | _ => none }
def FoldAgainWrongFalsely : Prop := foldAgainRow.holds Try.pinned (OpenSpec.ofChange foldAgainWrong)

/-- 'transputerlaw14.FoldLaws': WHATEVER THE INPUT: true; the input reads as it did. -/
def foldLawsSpec : ChangeSpec := { name := "foldLaws", fn := fun _ => fun
  | [d1, d2] => { results := [.lit (.bool true)], args := [d1, d2] }
  | _ => none }
def foldLawsRow : OpenClaim := { program := "ytlnbmocgnkjlfaa", sum := "16c99f5ac39bb7c5848161d3704d838b868d22897c9ace660b74bd737ee4d18b", func := "transputer/transputerlaw14.FoldLaws", spec := "foldLaws", inPlace := ["internal/bytealg.IndexByteString", "internal/bytealg.IndexString"], unfollowed := true, recurses := true, named := ["internal/bytealg.MaxLen"], apart := false }
def FoldLawsSaid : Prop := foldLawsRow.holds Try.pinned (OpenSpec.ofChange foldLawsSpec)

/-- ITS FALSE NEIGHBOUR: 'it returns false'. Refute it at one input. -/
def foldLawsWrong : ChangeSpec := { name := "foldLaws", fn := fun _ => fun
  | [d1, d2] => { results := [.lit (.bool false)], args := [d1, d2] }
  | _ => none }
def FoldLawsWrongFalsely : Prop := foldLawsRow.holds Try.pinned (OpenSpec.ofChange foldLawsWrong)

/-- 'transputerlaw14.FoldChain': WHATEVER THE INPUT: true; the input reads as it did. -/
def foldChainSpec : ChangeSpec := { name := "foldChain", fn := fun _ => fun
  | [d1, d2] => { results := [.lit (.bool true)], args := [d1, d2] }
  | _ => none }
def foldChainRow : OpenClaim := { program := "ytlnbmocgnkjlfaa", sum := "16c99f5ac39bb7c5848161d3704d838b868d22897c9ace660b74bd737ee4d18b", func := "transputer/transputerlaw14.FoldChain", spec := "foldChain", inPlace := ["internal/bytealg.IndexByteString", "internal/bytealg.IndexString"], unfollowed := true, recurses := true, named := ["internal/bytealg.MaxLen"], apart := false }
def FoldChainSaid : Prop := foldChainRow.holds Try.pinned (OpenSpec.ofChange foldChainSpec)

/-- ITS FALSE NEIGHBOUR: 'it returns false'. Refute it at one input. -/
def foldChainWrong : ChangeSpec := { name := "foldChain", fn := fun _ => fun
  | [d1, d2] => { results := [.lit (.bool false)], args := [d1, d2] }
  | _ => none }
def FoldChainWrongFalsely : Prop := foldChainRow.holds Try.pinned (OpenSpec.ofChange foldChainWrong)

/-- 'transputerlaw14.FoldShadows': WHATEVER THE INPUT: true; the input reads as it did. -/
def foldShadowsSpec : ChangeSpec := { name := "foldShadows", fn := fun _ => fun
  | [d1, d2, d3, d4] => { results := [.lit (.bool true)], args := [d1, d2, d3, d4] }
  | _ => none }
def foldShadowsRow : OpenClaim := { program := "ytlnbmocgnkjlfaa", sum := "16c99f5ac39bb7c5848161d3704d838b868d22897c9ace660b74bd737ee4d18b", func := "transputer/transputerlaw14.FoldShadows", spec := "foldShadows", inPlace := ["internal/bytealg.IndexByteString", "internal/bytealg.IndexString"], unfollowed := true, recurses := true, named := ["internal/bytealg.MaxLen"], apart := false }
def FoldShadowsSaid : Prop := foldShadowsRow.holds Try.pinned (OpenSpec.ofChange foldShadowsSpec)

/-- ITS FALSE NEIGHBOUR: 'it returns false'. Refute it at one input. -/
def foldShadowsWrong : ChangeSpec := { name := "foldShadows", fn := fun _ => fun
  | [d1, d2, d3, d4] => { results := [.lit (.bool false)], args := [d1, d2, d3, d4] }
  | _ => none }
def FoldShadowsWrongFalsely : Prop := foldShadowsRow.holds Try.pinned (OpenSpec.ofChange foldShadowsWrong)

/-- 'transputerlaw14.FoldKeeps': WHATEVER THE INPUT: true; the input reads as it did. -/
def foldKeepsSpec : ChangeSpec := { name := "foldKeeps", fn := fun _ => fun
  | [d1, d2, d3] => { results := [.lit (.bool true)], args := [d1, d2, d3] }
  | _ => none }
def foldKeepsRow : OpenClaim := { program := "ytlnbmocgnkjlfaa", sum := "16c99f5ac39bb7c5848161d3704d838b868d22897c9ace660b74bd737ee4d18b", func := "transputer/transputerlaw14.FoldKeeps", spec := "foldKeeps", inPlace := ["internal/bytealg.IndexByteString", "internal/bytealg.IndexString"], unfollowed := true, recurses := true, named := ["internal/bytealg.MaxLen"], loops := true, apart := false }
def FoldKeepsSaid : Prop := foldKeepsRow.holds Try.pinned (OpenSpec.ofChange foldKeepsSpec)

/-- ITS FALSE NEIGHBOUR: 'it returns false'. Refute it at one input. -/
def foldKeepsWrong : ChangeSpec := { name := "foldKeeps", fn := fun _ => fun
  | [d1, d2, d3] => { results := [.lit (.bool false)], args := [d1, d2, d3] }
  | _ => none }
def FoldKeepsWrongFalsely : Prop := foldKeepsRow.holds Try.pinned (OpenSpec.ofChange foldKeepsWrong)

/- THE SECOND FORM. 'bulk': how many values and letters a reading holds, each counted each time it is reached (what is shared counts as often as it is met; a slice's spare places count too). A statement '..UptoSaid' is the law's where the arguments, and the package variables that the reading takes, are together of bulk at most 1048576: NARROWER than '..Said'. Prove '..Said' where nothing that the law and all that it calls make is longer than what came in: it says more and counts as full. Else prove '..UptoSaid'. A law counts once. -/
mutual
def uptoBulk {H : Type} : DataW H → Nat
  | .lit (.string bytes) => bytes.length + 1
  | .lit _ => 1
  | .nil => 1
  | .ptr d => uptoBulk d + 1
  | .slice elems spare => uptoBulkAll elems + uptoBulkAll spare + 1
  | .agg parts => uptoBulkAll parts + 1
  | .iface _ d => uptoBulk d + 1
  | .map entries => uptoBulkEntries entries + 1
  | .held _ => 1
def uptoBulkAll {H : Type} : List (DataW H) → Nat
  | [] => 0
  | d :: r => uptoBulk d + uptoBulkAll r
def uptoBulkEntries {H : Type} : List (Lit × DataW H) → Nat
  | [] => 0
  | x :: r => uptoBulkEntry x + uptoBulkEntries r
def uptoBulkEntry {H : Type} : Lit × DataW H → Nat
  | (.string bytes, d) => bytes.length + uptoBulk d + 1
  | (_, d) => uptoBulk d + 1
 end
def uptoSmall : (H : Type) → List (DataW H) → Bool := fun _ ds => decide (uptoBulkAll ds ≤ 1048576)
def OpenSpec.upto (s : _root_.Go.ChangeSpec) : _root_.Go.OpenSpec := { _root_.Go.OpenSpec.ofChange s with cond := some uptoSmall }

/-- 'transputerlaw14.FoldApply', WHERE WHAT IT READS IS OF BULK AT MOST 1048576: true; the input reads as it did. -/
def foldApplyUptoRow : OpenClaim := { program := "ytlnbmocgnkjlfaa", sum := "16c99f5ac39bb7c5848161d3704d838b868d22897c9ace660b74bd737ee4d18b", func := "transputer/transputerlaw14.FoldApply", spec := "foldApply", inPlace := ["internal/bytealg.IndexByteString", "internal/bytealg.IndexString"], unfollowed := true, recurses := true, named := ["internal/bytealg.MaxLen"], apart := false, narrowed := true }
def FoldApplyUptoSaid : Prop := foldApplyUptoRow.holds Try.pinned (OpenSpec.upto foldApplySpec)

/-- 'transputerlaw14.FoldAgain', WHERE WHAT IT READS IS OF BULK AT MOST 1048576: true; the input reads as it did. -/
def foldAgainUptoRow : OpenClaim := { program := "ytlnbmocgnkjlfaa", sum := "16c99f5ac39bb7c5848161d3704d838b868d22897c9ace660b74bd737ee4d18b", func := "transputer/transputerlaw14.FoldAgain", spec := "foldAgain", inPlace := ["internal/bytealg.IndexByteString", "internal/bytealg.IndexString"], unfollowed := true, recurses := true, named := ["internal/bytealg.MaxLen"], loops := true, apart := false, narrowed := true }
def FoldAgainUptoSaid : Prop := foldAgainUptoRow.holds Try.pinned (OpenSpec.upto foldAgainSpec)

/-- 'transputerlaw14.FoldLaws', WHERE WHAT IT READS IS OF BULK AT MOST 1048576: true; the input reads as it did. -/
def foldLawsUptoRow : OpenClaim := { program := "ytlnbmocgnkjlfaa", sum := "16c99f5ac39bb7c5848161d3704d838b868d22897c9ace660b74bd737ee4d18b", func := "transputer/transputerlaw14.FoldLaws", spec := "foldLaws", inPlace := ["internal/bytealg.IndexByteString", "internal/bytealg.IndexString"], unfollowed := true, recurses := true, named := ["internal/bytealg.MaxLen"], apart := false, narrowed := true }
def FoldLawsUptoSaid : Prop := foldLawsUptoRow.holds Try.pinned (OpenSpec.upto foldLawsSpec)

/-- 'transputerlaw14.FoldChain', WHERE WHAT IT READS IS OF BULK AT MOST 1048576: true; the input reads as it did. -/
def foldChainUptoRow : OpenClaim := { program := "ytlnbmocgnkjlfaa", sum := "16c99f5ac39bb7c5848161d3704d838b868d22897c9ace660b74bd737ee4d18b", func := "transputer/transputerlaw14.FoldChain", spec := "foldChain", inPlace := ["internal/bytealg.IndexByteString", "internal/bytealg.IndexString"], unfollowed := true, recurses := true, named := ["internal/bytealg.MaxLen"], apart := false, narrowed := true }
def FoldChainUptoSaid : Prop := foldChainUptoRow.holds Try.pinned (OpenSpec.upto foldChainSpec)

/-- 'transputerlaw14.FoldShadows', WHERE WHAT IT READS IS OF BULK AT MOST 1048576: true; the input reads as it did. -/
def foldShadowsUptoRow : OpenClaim := { program := "ytlnbmocgnkjlfaa", sum := "16c99f5ac39bb7c5848161d3704d838b868d22897c9ace660b74bd737ee4d18b", func := "transputer/transputerlaw14.FoldShadows", spec := "foldShadows", inPlace := ["internal/bytealg.IndexByteString", "internal/bytealg.IndexString"], unfollowed := true, recurses := true, named := ["internal/bytealg.MaxLen"], apart := false, narrowed := true }
def FoldShadowsUptoSaid : Prop := foldShadowsUptoRow.holds Try.pinned (OpenSpec.upto foldShadowsSpec)

/-- 'transputerlaw14.FoldKeeps', WHERE WHAT IT READS IS OF BULK AT MOST 1048576: true; the input reads as it did. -/
def foldKeepsUptoRow : OpenClaim := { program := "ytlnbmocgnkjlfaa", sum := "16c99f5ac39bb7c5848161d3704d838b868d22897c9ace660b74bd737ee4d18b", func := "transputer/transputerlaw14.FoldKeeps", spec := "foldKeeps", inPlace := ["internal/bytealg.IndexByteString", "internal/bytealg.IndexString"], unfollowed := true, recurses := true, named := ["internal/bytealg.MaxLen"], loops := true, apart := false, narrowed := true }
def FoldKeepsUptoSaid : Prop := foldKeepsUptoRow.holds Try.pinned (OpenSpec.upto foldKeepsSpec)

end Rows
end Go.Proofs.Ytlnbmocgnkjlfaa
