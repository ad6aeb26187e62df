/-
  DERIVED. GIVEN WITH THE SEED: THE CARDS: each row of YtgmeahcclogfmaaDoorRows.lean that lists a variable, with what it lists TIED to the program's text (the seventh form; the later family's looks); each row that meets fmt, with fmt's text TOLD by the authors' own Lean function (tested against real Go, not proved from fmt's source: count such statements apart). THE CARD IS WHAT COUNTS. Prove the row's statement (the work); the ties are given (YtgmeahcclogfmaaDoorTie.lean); close each card by the builder's one call (the guide's Derived/Test/ToyasCard.lean, 'card_holds'). Laid BY PROGRAM, IN A SANDBOX (cutbox-door.mjs). By AI agents, Wed Nov 11 2026. No macro, syntax, notation, axiom, sorry.
-/
import Derived.Test.YtgmeahcclogfmaaDoorRows
import GoSem.ClaimSeven
namespace Go.Proofs.YtgmeahcclogfmaaDoor
namespace Rows

/-- THE TIED CARD OF 'transputerlaw23.RankBuilt'. -/
def rankBuiltCard : Claim7 := { stood := { row := rankBuiltRow, standIns := [], harness := (true, "6906396de42cafa0d0c15a6abeabdcb60127f6e24fd81fdcfe79d3e1fa8bd08e"), looks := false }, kinds := [], alts := [], laidByText := true, laidKinds := [.data], laidTests := true, laidLooks := .later }
def RankBuiltCardSaid : Prop := Claim7.holds Tryd.pinned (.plain (OpenSpec.ofChange rankBuiltSpec)) rankBuiltCard

/-- THE SECOND FORM's CARD OF 'transputerlaw23.RankBuilt'. -/
def rankBuiltUptoCard : Claim7 := { stood := { row := rankBuiltUptoRow, standIns := [], harness := (true, "6906396de42cafa0d0c15a6abeabdcb60127f6e24fd81fdcfe79d3e1fa8bd08e"), looks := false }, kinds := [], alts := [], laidByText := true, laidKinds := [.data], laidTests := true, laidLooks := .later }
def RankBuiltUptoCardSaid : Prop := Claim7.holds Tryd.pinned (.plain (OpenSpec.upto rankBuiltSpec)) rankBuiltUptoCard
end Rows
end Go.Proofs.YtgmeahcclogfmaaDoor
